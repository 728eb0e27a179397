/-
  Contracts of the program's functions and of the document's. Lemmas alone; their conditions stand in them.
-/
import Derived.Test.YtlpmfgmldmdggaaGreatK22
open Go Go.RM
namespace Go.Proofs.YtlpmfgmldmdggaaGreat
set_option maxRecDepth 100000
set_option maxHeartbeats 4000000
theorem Ac (one:Bool) (c:aL) (h:c.Ok) (p:bE):Pu one 36 [.ag (aI c),.ag (cV p)] (Na c p):=by
 unfold Na;by_cases he:kJ c p=0
 ·have o1:=BP one c h p he;obtain ⟨hg,hp⟩:=pU he;rw [if_pos he,he];have hho:=fun x=>Jv one c hg p hp (bD c 0 c.aD.length) (bD c 1 c.aD.length) (bD c 2 c.aD.length) x;have hbe:=fun i hi n hn=>wL one c hg p hp (bD c 0 c.aD.length) (bD c 1 c.aD.length) (bD c 2 c.aD.length) i hi n hn;have em:((c.aD.map aZ).length:Int)=c.aD.length:=by simp
  have hm5:=hg.aD;have hfl:=gP hg hp;unfold KY at o1
  generalize (bD c 0 c.aD.length)=m0 at *
  generalize (bD c 1 c.aD.length)=m1 at *
  generalize (bD c 2 c.aD.length)=m2 at *
  have d0:(!decide ((0:Int)=0))=false:=by decide
  unfold L9 at hfl
  generalize hfx:wY c p=fx at *
  obtain ⟨t,d,aw⟩:=p;obtain ⟨p1,p2,p3⟩:=hp
  dsimp only at *
  obtain ⟨tn,htn⟩:∃ tn:Nat,t=tn:=⟨t.toNat,by omega⟩;subst htn;change Pu one 75 [.ag (aI c),.ag [af (tn:Nat),af d,af aw]] (.tp [.ag [.sl (c.aC.map aT) false,.sl (c.aD.map aZ) false,af c.least,af (tn:Nat),af d,af aw,af (m0:Nat),af (m1:Nat),af (m2:Nat)],af 0]) at o1;show Pu one 36 [.ag (aI c),.ag [af (tn:Nat),af d,af aw]] _;refine ak.body (fn:=Tryz.f36) rfl rfl rfl rfl ?_;refine aa (mu:=fun t=>Nat.beq t 39 || Nat.beq t 6) ?_;repeat' first|refine u1 ?_|((with_reducible refine qq3 ?_);refine ak.call o1 rfl rfl ?_)|refine u2 ?_|fail
  have hL:∀ i,i≤5→(dS (fun (i k:Nat)=>cU c ⟨(tn:Int),d,aw⟩ i (k:Int)) (tn+1) i).length≤5 * i:=fun i hi=>by rw [wX,Nat.mul_comm];exact Nat.mul_le_mul_right _ (by omega)
  have hL1:1≤(dS (fun (i k:Nat)=>cU c ⟨(tn:Int),d,aw⟩ i (k:Int)) (tn+1) c.aD.length).length:=by rw [wX];exact Nat.mul_pos (by omega) (by omega)
  refine aB.aO (ah.trans (ah.GV 0 (l:=[(3,.pt [af (tn:Nat),af d,af aw] 0),(6,.pt [.sl (c.aC.map aT) false,.sl (c.aD.map aZ) false,af c.least,af (tn:Nat),af d,af aw,af (m0:Nat),af (m1:Nat),af (m2:Nat)] 0),(8,.fl (.slice none 0 0)),(23,af ((c.aD.map aZ).length:Int)),(24,af ((0:Nat):Int))]) (hp':=[.gone]) rfl (qq5 _) rfl ⟨.same rfl,.ptr,.same rfl,.same rfl,.same rfl,trivial⟩ ⟨rfl,trivial⟩) (ah.trans (ah.to (l:=[(3,.pt [af (tn:Nat),af d,af aw] 0),(6,.pt [.sl (c.aC.map aT) false,.sl (c.aD.map aZ) false,af c.least,af (tn:Nat),af d,af aw,af (m0:Nat),af (m1:Nat),af (m2:Nat)] 0),(8,.fl (.slice none 0 0)),(23,af (c.aD.length:Int)),(24,af ((0:Nat):Int))]) (hp:=[]) 0 rfl ⟨rfl,rfl,rfl,aE em,rfl,trivial⟩ (qq5 _) rfl rfl) (ah.trans (ah.mZ 1) (ah.IL (l:=[(3,.pt [af (tn:Nat),af d,af aw] 0),(6,.pt [.sl (c.aC.map aT) false,.sl (c.aD.map aZ) false,af c.least,af (tn:Nat),af d,af aw,af (m0:Nat),af (m1:Nat),af (m2:Nat)] 0),(8,.aJ 0 ((0,0,0):Nat × Nat × Nat).2.1 0 (dS (fun (i k:Nat)=>cU c ⟨(tn:Int),d,aw⟩ i (k:Int)) (tn+1) ((0,0,0):Nat × Nat × Nat).1).length ((0,0,0):Nat × Nat × Nat).2.2),(23,af (c.aD.length:Int)),(24,af (((0,0,0):Nat × Nat × Nat).1:Nat))]) (hp:=[aA (dS (fun (i k:Nat)=>cU c ⟨(tn:Int),d,aw⟩ i (k:Int)) (tn+1) ((0,0,0):Nat × Nat × Nat).1) ((0,0,0):Nat × Nat × Nat).2.1]) 1 rfl ⟨dP.refl _,dP.refl _,dP.mY,dP.refl _,dP.refl _,trivial⟩ (qq5 _) rfl (av _ _))))) ?_;refine aB.loop (fun x:Nat × Nat × Nat=>x.1≤c.aD.length∧(x.2.2=(dS (fun (i k:Nat)=>cU c ⟨(tn:Int),d,aw⟩ i (k:Int)) (tn+1) x.1).length∨x.2.2=(dS (fun (i k:Nat)=>cU c ⟨(tn:Int),d,aw⟩ i (k:Int)) (tn+1) x.1).length+1)) (fun x=>⟨aM [(3,.pt [af (tn:Nat),af d,af aw] 0),(6,.pt [.sl (c.aC.map aT) false,.sl (c.aD.map aZ) false,af c.least,af (tn:Nat),af d,af aw,af (m0:Nat),af (m1:Nat),af (m2:Nat)] 0),(8,.aJ 0 x.2.1 0 (dS (fun (i k:Nat)=>cU c ⟨(tn:Int),d,aw⟩ i (k:Int)) (tn+1) x.1).length x.2.2),(23,af (c.aD.length:Int)),(24,af (x.1:Nat))],[aA (dS (fun (i k:Nat)=>cU c ⟨(tn:Int),d,aw⟩ i (k:Int)) (tn+1) x.1) x.2.1],bq.none,false,0⟩) (fun x=>c.aD.length - x.1) ?_ (0,0,0) ⟨qq5 _,.inl rfl⟩;rintro ⟨i,v,cc⟩ ⟨hi,hcap⟩;dsimp only at hi hcap;show aB _ _ _ _ ⟨aM [(3,.pt [af (tn:Nat),af d,af aw] 0),(6,.pt [.sl (c.aC.map aT) false,.sl (c.aD.map aZ) false,af c.least,af (tn:Nat),af d,af aw,af (m0:Nat),af (m1:Nat),af (m2:Nat)] 0),(8,.aJ 0 ((i,v,cc):Nat × Nat × Nat).2.1 0 (dS (fun (i k:Nat)=>cU c ⟨(tn:Int),d,aw⟩ i (k:Int)) (tn+1) ((i,v,cc):Nat × Nat × Nat).1).length ((i,v,cc):Nat × Nat × Nat).2.2),(23,af (c.aD.length:Int)),(24,af (((i,v,cc):Nat × Nat × Nat).1:Nat))],[aA (dS (fun (i k:Nat)=>cU c ⟨(tn:Int),d,aw⟩ i (k:Int)) (tn+1) ((i,v,cc):Nat × Nat × Nat).1) ((i,v,cc):Nat × Nat × Nat).2.1],bq.none,false,0⟩ _;dsimp only;by_cases hlt:i < c.aD.length
  ·have dl:decide ((i:Int) < (c.aD.length:Int))=true:=decide_eq_true (by omega);have hLi:=hL i (by omega);have hn0:dS (fun (i k:Nat)=>cU c ⟨(tn:Int),d,aw⟩ i (k:Int)) (tn+1) i++gB (fun (k:Nat)=>cU c ⟨(tn:Int),d,aw⟩ i (k:Int)) 0=dS (fun (i k:Nat)=>cU c ⟨(tn:Int),d,aw⟩ i (k:Int)) (tn+1) i:=List.append_nil _;have hn1:dS (fun (i k:Nat)=>cU c ⟨(tn:Int),d,aw⟩ i (k:Int)) (tn+1) (i+1)=dS (fun (i k:Nat)=>cU c ⟨(tn:Int),d,aw⟩ i (k:Int)) (tn+1) i++gB (fun (k:Nat)=>cU c ⟨(tn:Int),d,aw⟩ i (k:Int)) (tn+1):=rfl;refine aa (mu:=fun t=>Nat.beq t 39 || Nat.beq t 6) ?_;repeat' first|refine u1 ?_|refine u2 ?_|fail
   refine aB.aO (ah.to (l:=[(3,.pt [af (tn:Nat),af d,af aw] 0),(6,.pt [.sl (c.aC.map aT) false,.sl (c.aD.map aZ) false,af c.least,af (tn:Nat),af d,af aw,af (m0:Nat),af (m1:Nat),af (m2:Nat)] 0),(8,.aJ 0 ((0,v,cc):Nat × Nat × Nat).2.1 0 (dS (fun (i k:Nat)=>cU c ⟨(tn:Int),d,aw⟩ i (k:Int)) (tn+1) i++gB (fun (k:Nat)=>cU c ⟨(tn:Int),d,aw⟩ i (k:Int)) ((0,v,cc):Nat × Nat × Nat).1).length ((0,v,cc):Nat × Nat × Nat).2.2),(23,af (c.aD.length:Int)),(24,af (i:Nat)),(9,af (i:Nat)),(29,af ((tn+1:Nat):Int)),(30,af (((0,v,cc):Nat × Nat × Nat).1:Nat))]) (hp:=[aA (dS (fun (i k:Nat)=>cU c ⟨(tn:Int),d,aw⟩ i (k:Int)) (tn+1) i++gB (fun (k:Nat)=>cU c ⟨(tn:Int),d,aw⟩ i (k:Int)) ((0,v,cc):Nat × Nat × Nat).1) ((0,v,cc):Nat × Nat × Nat).2.1]) 1 (by dsimp only;rw [hn0];rfl) ⟨rfl,rfl,by dsimp only;rw [hn0];rfl,rfl,rfl,rfl,aE (by simp),rfl,trivial⟩ (qq5 _) rfl (av _ _)) ?_;refine aB.loop (fun x:Nat × Nat × Nat=>x.1≤tn+1∧(x.2.2=(dS (fun (i k:Nat)=>cU c ⟨(tn:Int),d,aw⟩ i (k:Int)) (tn+1) i++gB (fun (k:Nat)=>cU c ⟨(tn:Int),d,aw⟩ i (k:Int)) x.1).length∨x.2.2=(dS (fun (i k:Nat)=>cU c ⟨(tn:Int),d,aw⟩ i (k:Int)) (tn+1) i++gB (fun (k:Nat)=>cU c ⟨(tn:Int),d,aw⟩ i (k:Int)) x.1).length+1)) (fun x=>⟨aM [(3,.pt [af (tn:Nat),af d,af aw] 0),(6,.pt [.sl (c.aC.map aT) false,.sl (c.aD.map aZ) false,af c.least,af (tn:Nat),af d,af aw,af (m0:Nat),af (m1:Nat),af (m2:Nat)] 0),(8,.aJ 0 x.2.1 0 (dS (fun (i k:Nat)=>cU c ⟨(tn:Int),d,aw⟩ i (k:Int)) (tn+1) i++gB (fun (k:Nat)=>cU c ⟨(tn:Int),d,aw⟩ i (k:Int)) x.1).length x.2.2),(23,af (c.aD.length:Int)),(24,af (i:Nat)),(9,af (i:Nat)),(29,af ((tn+1:Nat):Int)),(30,af (x.1:Nat))],[aA (dS (fun (i k:Nat)=>cU c ⟨(tn:Int),d,aw⟩ i (k:Int)) (tn+1) i++gB (fun (k:Nat)=>cU c ⟨(tn:Int),d,aw⟩ i (k:Int)) x.1) x.2.1],bq.none,false,0⟩) (fun x=>tn+1 - x.1) ?_ (0,v,cc) ⟨qq5 _,by dsimp only;rw [hn0];exact hcap⟩;clear hcap;rintro ⟨k,v,cc⟩ ⟨hk,hcap⟩;dsimp only at hk hcap;show aB _ _ _ _ ⟨aM [(3,.pt [af (tn:Nat),af d,af aw] 0),(6,.pt [.sl (c.aC.map aT) false,.sl (c.aD.map aZ) false,af c.least,af (tn:Nat),af d,af aw,af (m0:Nat),af (m1:Nat),af (m2:Nat)] 0),(8,.aJ 0 ((k,v,cc):Nat × Nat × Nat).2.1 0 (dS (fun (i k:Nat)=>cU c ⟨(tn:Int),d,aw⟩ i (k:Int)) (tn+1) i++gB (fun (k:Nat)=>cU c ⟨(tn:Int),d,aw⟩ i (k:Int)) ((k,v,cc):Nat × Nat × Nat).1).length ((k,v,cc):Nat × Nat × Nat).2.2),(23,af (c.aD.length:Int)),(24,af (i:Nat)),(9,af (i:Nat)),(29,af ((tn+1:Nat):Int)),(30,af (((k,v,cc):Nat × Nat × Nat).1:Nat))],[aA (dS (fun (i k:Nat)=>cU c ⟨(tn:Int),d,aw⟩ i (k:Int)) (tn+1) i++gB (fun (k:Nat)=>cU c ⟨(tn:Int),d,aw⟩ i (k:Int)) ((k,v,cc):Nat × Nat × Nat).1) ((k,v,cc):Nat × Nat × Nat).2.1],bq.none,false,0⟩ _;dsimp only;by_cases hkt:k < tn+1
   ·have d1:decide ((k:Int) < ((tn+1:Nat):Int))=true:=decide_eq_true (by omega);have o2:=hbe i hlt k (by omega);change Pu one 80 [.ag [.sl (c.aC.map aT) false,.sl (c.aD.map aZ) false,af c.least,af (tn:Nat),af d,af aw,af (m0:Nat),af (m1:Nat),af (m2:Nat)],af (i:Int),af (k:Int)] _ at o2;have hgl:(ay (dS (fun (i k:Nat)=>cU c ⟨(tn:Int),d,aw⟩ i (k:Int)) (tn+1) i++gB (fun (k:Nat)=>cU c ⟨(tn:Int),d,aw⟩ i (k:Int)) k)).length=(dS (fun (i k:Nat)=>cU c ⟨(tn:Int),d,aw⟩ i (k:Int)) (tn+1) i++gB (fun (k:Nat)=>cU c ⟨(tn:Int),d,aw⟩ i (k:Int)) k).length * 1:=by rw [List.length_map];omega
    have hln:(dS (fun (i k:Nat)=>cU c ⟨(tn:Int),d,aw⟩ i (k:Int)) (tn+1) i++gB (fun (k:Nat)=>cU c ⟨(tn:Int),d,aw⟩ i (k:Int)) k).length≤30:=by rw [List.length_append,wW];omega
    have hrs:dS (fun (i k:Nat)=>cU c ⟨(tn:Int),d,aw⟩ i (k:Int)) (tn+1) i++gB (fun (k:Nat)=>cU c ⟨(tn:Int),d,aw⟩ i (k:Int)) (k+1)=(dS (fun (i k:Nat)=>cU c ⟨(tn:Int),d,aw⟩ i (k:Int)) (tn+1) i++gB (fun (k:Nat)=>cU c ⟨(tn:Int),d,aw⟩ i (k:Int)) k)++[cU c ⟨(tn:Int),d,aw⟩ i (k:Int)]:=by rw [List.append_assoc];rfl
    have hrl:(dS (fun (i k:Nat)=>cU c ⟨(tn:Int),d,aw⟩ i (k:Int)) (tn+1) i++gB (fun (k:Nat)=>cU c ⟨(tn:Int),d,aw⟩ i (k:Int)) (k+1)).length=(dS (fun (i k:Nat)=>cU c ⟨(tn:Int),d,aw⟩ i (k:Int)) (tn+1) i++gB (fun (k:Nat)=>cU c ⟨(tn:Int),d,aw⟩ i (k:Int)) k).length+1:=by rw [hrs,List.length_append];rfl
    have hrn:ay (dS (fun (i k:Nat)=>cU c ⟨(tn:Int),d,aw⟩ i (k:Int)) (tn+1) i++gB (fun (k:Nat)=>cU c ⟨(tn:Int),d,aw⟩ i (k:Int)) (k+1))=ay (dS (fun (i k:Nat)=>cU c ⟨(tn:Int),d,aw⟩ i (k:Int)) (tn+1) i++gB (fun (k:Nat)=>cU c ⟨(tn:Int),d,aw⟩ i (k:Int)) k)++[af (cU c ⟨(tn:Int),d,aw⟩ i (k:Int))]:=by rw [hrs];exact List.map_append
    refine aa (mu:=fun t=>Nat.beq t 39 || Nat.beq t 6) ?_;repeat' first|refine u1 ?_|((with_reducible refine qq3 ?_);refine ak.call o2 rfl rfl ?_)|((with_reducible show RM.wpOp _ _ (.call _) _ _ _);refine RM.sR (cs:=ay (dS (fun (i k:Nat)=>cU c ⟨(tn:Int),d,aw⟩ i (k:Int)) (tn+1) i++gB (fun (k:Nat)=>cU c ⟨(tn:Int),d,aw⟩ i (k:Int)) k)) (n:=(dS (fun (i k:Nat)=>cU c ⟨(tn:Int),d,aw⟩ i (k:Int)) (tn+1) i++gB (fun (k:Nat)=>cU c ⟨(tn:Int),d,aw⟩ i (k:Int)) k).length) (els:=[[af (cU c ⟨(tn:Int),d,aw⟩ i (k:Int))]]) rfl rfl rfl rfl rfl (fun el hel=>by rw [List.mem_singleton.1 hel];rfl) rfl rfl hgl hcap (by simp only [List.length_singleton];omega) (fun v' c' hc'=>?_))|refine u2 ?_|fail
    exact ⟨(k+1,v',c'),⟨by dsimp only;omega,by dsimp only;rw [hrl];simpa using hc'⟩,(by dsimp only;omega),ah.to (l:=[(3,.pt [af (tn:Nat),af d,af aw] 0),(6,.pt [.sl (c.aC.map aT) false,.sl (c.aD.map aZ) false,af c.least,af (tn:Nat),af d,af aw,af (m0:Nat),af (m1:Nat),af (m2:Nat)] 0),(8,.aJ 0 ((k+1,v',c'):Nat × Nat × Nat).2.1 0 (dS (fun (i k:Nat)=>cU c ⟨(tn:Int),d,aw⟩ i (k:Int)) (tn+1) i++gB (fun (k:Nat)=>cU c ⟨(tn:Int),d,aw⟩ i (k:Int)) ((k+1,v',c'):Nat × Nat × Nat).1).length ((k+1,v',c'):Nat × Nat × Nat).2.2),(23,af (c.aD.length:Int)),(24,af (i:Nat)),(9,af (i:Nat)),(29,af ((tn+1:Nat):Int)),(30,af (((k+1,v',c'):Nat × Nat × Nat).1:Nat))]) (hp:=[aA (dS (fun (i k:Nat)=>cU c ⟨(tn:Int),d,aw⟩ i (k:Int)) (tn+1) i++gB (fun (k:Nat)=>cU c ⟨(tn:Int),d,aw⟩ i (k:Int)) ((k+1,v',c'):Nat × Nat × Nat).1) ((k+1,v',c'):Nat × Nat × Nat).2.1]) 1 (by show _=[AB.cells (ay (dS (fun (i k:Nat)=>cU c ⟨(tn:Int),d,aw⟩ i (k:Int)) (tn+1) i++gB (fun (k:Nat)=>cU c ⟨(tn:Int),d,aw⟩ i (k:Int)) (k+1))) 1 v'];rw [hrn];rfl) ⟨rfl,rfl,by dsimp only;rw [hrl];rfl,rfl,rfl,rfl,rfl,aE (by simp),trivial⟩ (qq5 _) rfl (av _ _)⟩
   ·have d1:decide ((k:Int) < ((tn+1:Nat):Int))=false:=decide_eq_false (by omega);have hkk:k=tn+1:=by omega
    subst hkk;rw [←hn1] at hcap;refine aa (mu:=fun t=>Nat.beq t 39 || Nat.beq t 6) ?_;repeat' first|refine u1 ?_|refine u2 ?_|fail
    exact ⟨(i+1,v,cc),⟨hlt,hcap⟩,(by dsimp only;omega),ah.to (hp:=[aA (dS (fun (i k:Nat)=>cU c ⟨(tn:Int),d,aw⟩ i (k:Int)) (tn+1) ((i+1,v,cc):Nat × Nat × Nat).1) ((i+1,v,cc):Nat × Nat × Nat).2.1]) 1 rfl ⟨rfl,rfl,rfl,rfl,aE (by simp),trivial⟩ (qq5 _) rfl (av _ _)⟩
  ·have dl:decide ((i:Int) < (c.aD.length:Int))=false:=decide_eq_false (by omega);have hil:i=c.aD.length:=by omega
   subst hil;refine RM.i4 (mu:=fun t=>Nat.beq t 39 || Nat.beq t 6) ?_;repeat' first|refine u1 ?_|refine u2 ?_|fail
   refine RM.i4 (mu:=fun t=>Nat.beq t 39 || Nat.beq t 6) ?_;repeat' first|refine u1 ?_|refine u2 ?_|fail
   refine LM one _ rfl ⟨hL1,by have:=hL c.aD.length hm5.2;omega⟩ (fun S hp hl hs=>?_);repeat' first|refine u1 ?_|refine u2 ?_|fail
   have hex:∃ x ∈ S,oZ c ⟨(tn:Int),d,aw⟩ x=true:=⟨fx,hp.mem_iff.2 hfl.mem,hfl.ok⟩;obtain ⟨k,hk1,hk2,hk3⟩:=Ft (P:=oZ c ⟨(tn:Int),d,aw⟩) (S:=S) (by rw [hl];exact hs) hex;have hkx:aH S k=fx:=(hk3.perm hp.symm).uniq hfl;have hsl:=hL c.aD.length hm5.2;have o2:=pT one 89 [.ag [.sl (c.aC.map aT) false,.sl (c.aD.map aZ) false,af c.least,af (tn:Nat),af d,af aw,af (m0:Nat),af (m1:Nat),af (m2:Nat)]] [] rfl (oZ c ⟨(tn:Int),d,aw⟩) S false (by rw [hl];simp only [maxLen];omega) (fun x _=>hho x);rw [hk1] at o2;have g1:(ay S)[0+((k:Nat):Int).toNat * 1]?=some (af (aH S k)):=ax (by omega) (by omega);rw [hkx] at g1;refine ak.KN (hp:=[aA S v]) o2 rfl (zG.two (wJ (j:=0) (v:=v) rfl hl) (Fz.deep rfl)) (mV.fl _) ?_;repeat' first|((with_reducible show RM.wpOp _ _ (.load _ _) _ _ _);refine RM.bC rfl rfl rfl g1 ?_)|refine u1 ?_|refine u2 ?_|fail
   exact ⟨[_,_],⟨Fz.deep rfl,Fz.deep rfl,trivial⟩,rfl⟩
 ·have o1:=yB one c h p he;have d1:(!decide (kJ c p=0))=true:=by rw [decide_eq_false he];rfl
  rw [if_neg he]
  generalize kJ c p=e at *
  refine ak.body (fn:=Tryz.f36) rfl rfl rfl rfl ?_;refine aa (mu:=fun t=>Nat.beq t 39 || Nat.beq t 6) ?_;repeat' first|refine u1 ?_|((with_reducible refine qq3 ?_);refine ak.call o1 rfl rfl ?_)|refine u2 ?_|fail
  exact ⟨[_,_],⟨Fz.deep rfl,Fz.deep rfl,trivial⟩,rfl⟩
end Go.Proofs.YtlpmfgmldmdggaaGreat
open Go Go.RM
namespace Go.Proofs.YtlpmfgmldmdggaaGreat
set_option maxRecDepth 100000
set_option maxHeartbeats 4000000
theorem LU (one:Bool) (c:aL) (hg:Good c) (p:bE) (hp:ob p) (i:Nat) (hi:i < c.aD.length) (x:Int):Pu one 94 [.ag (aI c),.ag (cV p),af (i:Int),af x] (af (fH c p x i:Nat)):=by
 have hb:=fun n hn=>Fe one c hg p hp i hi n hn;obtain ⟨t,d,aw⟩:=p;obtain ⟨p1,p2,p3⟩:=hp
 dsimp only at *
 obtain ⟨tn,htn⟩:∃ tn:Nat,t=tn:=⟨t.toNat,by omega⟩;show Pu one 94 [.ag (aI c),.ag [af t,af d,af aw],af (i:Int),af x] _;refine ak.body (fn:=Tryz.f94) rfl rfl rfl rfl ?_;refine qq1 ?_;repeat' first|refine u1 ?_|refine u2 ?_|fail
 refine aB.aO (ah.to (l:=[(2,af (i:Nat)),(3,af x),(4,.pt (aI c) 0),(5,.pt [af t,af d,af aw] 0),(9,af ((0:Nat):Int))]) (hp:=[]) 0 rfl ⟨rfl,rfl,rfl,rfl,rfl,trivial⟩ (qq5 _) rfl rfl) ?_;refine aB.loop (fun k:Nat=>k≤tn+1∧yF (fun k=>cU c ⟨t,d,aw⟩ i (k:Int)) x (tn+1 - k) k=fH c ⟨t,d,aw⟩ x i) (fun k=>⟨aM [(2,af (i:Nat)),(3,af x),(4,.pt (aI c) 0),(5,.pt [af t,af d,af aw] 0),(9,af (k:Nat))],[],bq.none,false,0⟩) (fun k=>tn+1 - k) ?_ 0 ⟨qq5 _,by unfold fH;rw [Nat.sub_zero,show (⟨t,d,aw⟩:bE).turns.toNat=tn by show t.toNat=tn;omega]⟩;rintro k ⟨hk,hnd⟩;by_cases hkt:k≤tn
 ·have d1:decide ((k:Int)≤t)=true:=decide_eq_true (by omega);have o1:=hb k (by omega);change Pu one 90 [.ag (aI c),.ag [af t,af d,af aw],af (i:Int),af (k:Int)] _ at o1;by_cases hx:x < cU c ⟨t,d,aw⟩ i (k:Int)
  ·have d2:decide (x < cU c ⟨t,d,aw⟩ i (k:Int))=true:=decide_eq_true hx;refine qq1 ?_;repeat' first|refine u1 ?_|((with_reducible refine qq3 ?_);refine ak.call o1 rfl rfl ?_)|refine u2 ?_|fail
   exact ⟨k+1,⟨by omega,by rw [←hnd];exact HB hkt hx⟩,(by dsimp only;omega),ah.to 0 rfl ⟨rfl,rfl,rfl,rfl,aE (by simp),trivial⟩ (qq5 _) rfl rfl⟩
  ·have d2:decide (x < cU c ⟨t,d,aw⟩ i (k:Int))=false:=decide_eq_false hx;rw [B3 hkt hx] at hnd;rw [←hnd];refine qq1 ?_;repeat' first|refine u1 ?_|((with_reducible refine qq3 ?_);refine ak.call o1 rfl rfl ?_)|refine u2 ?_|fail
   exact ⟨[_],⟨Fz.deep rfl,trivial⟩,rfl⟩
 ·have d1:decide ((k:Int)≤t)=false:=decide_eq_false (by omega);rw [D6 hkt] at hnd;rw [←hnd];refine qq1 ?_;repeat' first|refine u1 ?_|refine u2 ?_|fail
  exact ⟨[_],⟨Fz.deep rfl,trivial⟩,rfl⟩
theorem B9 (one:Bool) (c:aL) (hg:Good c) (p:bE) (hp:ob p) (x:Int):Pu one 50 [.ag (aI c),.ag (cV p),af x] (BB (oZ c p x)):=by
 have hb:=fun i hi=>LU one c hg p hp i hi x;have hle:=Li c p x;have em:((c.aD.map aZ).length:Int)=c.aD.length:=by simp
 have hm5:c.aD.length≤5:=hg.aD.2;obtain ⟨t,d,aw⟩:=p;obtain ⟨p1,p2,p3⟩:=hp
 dsimp only at *
 have hmul:0≤t * aw∧t * aw≤8:=by
  obtain rfl|rfl:aw=1∨aw=2:=by omega
  ·omega
  ·omega
 have hsum:∀ i,cw (fH c ⟨t,d,aw⟩ x) i≤5 * i:=fun i=>by
  induction i with
  | zero=>exact qq6 _
  | succ i ih =>have:=hle i;show cw (fH c ⟨t,d,aw⟩ x) i+fH c ⟨t,d,aw⟩ x i≤_;omega
 show Pu one 50 [.ag (aI c),.ag [af t,af d,af aw],af x] _;refine ak.body (fn:=Tryz.f50) rfl rfl rfl rfl ?_;refine qq1 ?_;repeat' first|refine u1 ?_|refine u2 ?_|fail
 refine aB.aO (ah.to (l:=[(2,af x),(3,.pt (aI c) 0),(4,.pt [af t,af d,af aw] 0),(7,af (cw (fH c ⟨t,d,aw⟩ x) 0:Nat)),(8,af (0:Nat))]) (hp:=[]) 0 rfl ⟨rfl,rfl,rfl,rfl,rfl,trivial⟩ (qq5 _) rfl rfl) ?_;refine aB.loop (fun i:Nat=>i≤c.aD.length∧z6 c ⟨t,d,aw⟩ x i=true) (fun i=>⟨aM [(2,af x),(3,.pt (aI c) 0),(4,.pt [af t,af d,af aw] 0),(7,af (cw (fH c ⟨t,d,aw⟩ x) i:Nat)),(8,af (i:Nat))],[],bq.none,false,0⟩) (fun i=>c.aD.length - i) ?_ 0 ⟨qq5 _,rfl⟩;rintro i ⟨hi,hok⟩;have hsi:=hsum i;by_cases hlt:i < c.aD.length
 ·have dl:decide ((i:Int) < ((c.aD.map aZ).length:Int))=true:=decide_eq_true (by omega);have o1:=hb i hlt;have hn4:=hle i;change Pu one 94 [.ag (aI c),.ag [af t,af d,af aw],af (i:Int),af x] _ at o1;have hs:cw (fH c ⟨t,d,aw⟩ x) (i+1)=cw (fH c ⟨t,d,aw⟩ x) i+fH c ⟨t,d,aw⟩ x i:=rfl;have hk1:z6 c ⟨t,d,aw⟩ x (i+1)=(z6 c ⟨t,d,aw⟩ x i && !decide ((t+1) / 2 < (fH c ⟨t,d,aw⟩ x i:Int))):=rfl
  generalize fH c ⟨t,d,aw⟩ x i=k at *
  by_cases hbig:(t+1) / 2 < (k:Int)
  ·have d3:decide ((t+1) / 2 < (k:Int))=true:=decide_eq_true hbig;have hz:oZ c ⟨t,d,aw⟩ x=false:=by unfold oZ;rw [oT c ⟨t,d,aw⟩ x (i:=i+1) (by rw [hk1,d3,Bool.not_true,Bool.and_false]) (by omega)];rfl
   rw [hz];refine qq1 ?_;repeat' first|refine u1 ?_|((with_reducible refine qq3 ?_);refine ak.call o1 rfl rfl ?_)|refine u2 ?_|fail
   exact ⟨[_],⟨Fz.deep rfl,trivial⟩,rfl⟩
  ·have d3:decide ((t+1) / 2 < (k:Int))=false:=decide_eq_false hbig;refine qq1 ?_;repeat' first|refine u1 ?_|((with_reducible refine qq3 ?_);refine ak.call o1 rfl rfl ?_)|refine u2 ?_|fail
   exact ⟨i+1,⟨by omega,by rw [hk1,d3,hok];rfl⟩,(by dsimp only;omega),ah.to (l:=[(2,af x),(3,.pt (aI c) 0),(4,.pt [af t,af d,af aw] 0),(7,af (cw (fH c ⟨t,d,aw⟩ x) (i+1):Nat)),(8,af ((i+1):Nat))]) 0 rfl ⟨rfl,rfl,rfl,aE (by rw [hs];simp),aE (by simp),trivial⟩ (qq5 _) rfl rfl⟩
 ·have dl:decide ((i:Int) < ((c.aD.map aZ).length:Int))=false:=decide_eq_false (by omega);have hz:oZ c ⟨t,d,aw⟩ x=decide ((cw (fH c ⟨t,d,aw⟩ x) i:Int)≤t * aw):=by unfold oZ;rw [show c.aD.length=i by omega,hok];rfl
  rw [hz];refine qq1 ?_;repeat' first|refine u1 ?_|refine u2 ?_|fail
  exact ⟨[_],⟨Fz.deep rfl,trivial⟩,rfl⟩
end Go.Proofs.YtlpmfgmldmdggaaGreat
open Go Go.RM
namespace Go.Proofs.YtlpmfgmldmdggaaGreat
set_option maxRecDepth 100000
set_option maxHeartbeats 4000000
theorem Ic {c:aL} (hg:Good c) {p:bE} (hp:ob p) {i:Nat} (hi:i < c.aD.length) {n:Int} (hn:0≤n∧n≤p.turns):-500000≤cU c p i n∧cU c p i n≤700000:=by obtain ⟨mn,rk,w,ms,ra,rb,rc,rd,e,hmt,hrt,hrk,hb1,hb2,h01,h02,_⟩:=lZ hg (k:=i) hi;unfold cU;rw [h01,h02];have hq:=Fc (w:=w) hb1 hp.turns hp.days hn;omega
theorem Ie (c:aL) (h:c.Ok) (p:bE) (x:List Nat) (fx:Bool) (hx:x.length≤maxLen):Pu false 14 [.ag (aI c),.ag (cV p),.sl (x.map e8) fx] (BB true):=by
 have o1:=Ac false c h p;have o2:=Ab false c h p;have o3:=oU false c h p;have aw:=KT false;have aw':=KT true;unfold Na at o1;unfold Jr at o3;by_cases he:kJ c p=0
 ·obtain ⟨hg,hp⟩:=pU he;rw [if_pos he] at o3;rw [if_pos he,he] at o1;rw [decide_eq_true he] at o2;obtain ⟨hTL,hTp,hT5⟩:=Ib hg hp;have hgo:=B2 hg hp he;have h1:=Ec hg hp hTp (Hh hgo).2.2;rw [wV hg hp] at h1;have o7:=MP true c h hg p hp x fx hx;obtain ⟨hAL,hAp⟩:=LR c hg hp x;have o8:=Lg true c hg p hp (jB c p x p.turns.toNat) false hAL hAp;have h2:=Ec hg hp hAp (yE hp x _);have h3:=(gP hg hp).ok;have h4:=Ls hg hp;have o9:=B9 true c hg p hp (wY c p);have o10:=B9 true c hg p hp (wY c p - 1);rw [h3] at o9;rw [h4] at o10;have hbd:-500000≤wY c p∧wY c p≤700000:=by obtain ⟨j,k,hj,hk,hv⟩:=gm.1 (gP hg hp).mem;rw [hv];exact Ic hg hp hj (by have:=hp.turns;omega)
  generalize jB c p x p.turns.toNat=X at *
  generalize C4 (uR c p X c.aD.length)=z at *
  generalize (jA c p).2=n at *
  generalize kH c p=T at *
  generalize wY c p=y at *
  have d0:decide ((0:Int)=0)=true:=rfl;have d1:decide (y≤n)=true:=decide_eq_true h1;have d2:decide (y≤z)=true:=decide_eq_true h2;refine ak.body (fn:=Tryz.f14) rfl rfl rfl rfl ?_;refine qq1 ?_;repeat' first|refine u1 ?_|((with_reducible refine qq3 ?_);refine ak.call o1 rfl rfl ?_)|((with_reducible refine qq3 ?_);refine ak.call o2 rfl rfl ?_)|((with_reducible refine qq3 ?_);refine ak.call o3 rfl rfl ?_)|((with_reducible refine qq3 ?_);refine ak.call aw rfl rfl ?_)|(refine ⟨_,_,.inl ⟨rfl,rfl⟩,o7,?_⟩)|(refine ⟨_,_,.inl ⟨rfl,rfl⟩,o8,?_⟩)|(refine ⟨_,_,.inl ⟨rfl,rfl⟩,o9,?_⟩)|(refine ⟨_,_,.inl ⟨rfl,rfl⟩,o10,?_⟩)|(refine ⟨_,_,.inl ⟨rfl,rfl⟩,aw',?_⟩)|refine u2 ?_|fail
  exact ⟨[_],⟨Fz.deep rfl,trivial⟩,rfl⟩
 ·rw [if_neg he] at o1 o3;rw [decide_eq_false he] at o2;have d0:(!decide (kJ c p=0))=true:=by rw [decide_eq_false he];rfl
  generalize kJ c p=e at *
  refine ak.body (fn:=Tryz.f14) rfl rfl rfl rfl ?_;refine qq1 ?_;repeat' first|refine u1 ?_|((with_reducible refine qq3 ?_);refine ak.call o1 rfl rfl ?_)|((with_reducible refine qq3 ?_);refine ak.call o2 rfl rfl ?_)|((with_reducible refine qq3 ?_);refine ak.call aw rfl rfl ?_)|refine u2 ?_|fail
  exact ⟨[_],⟨Fz.deep rfl,trivial⟩,rfl⟩
