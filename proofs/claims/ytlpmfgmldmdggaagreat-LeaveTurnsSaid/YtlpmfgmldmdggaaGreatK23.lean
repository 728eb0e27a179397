/-
  Contracts of the program's functions and of the document's. Lemmas alone; their conditions stand in them.
-/
import Derived.Test.YtlpmfgmldmdggaaGreatK20
import Derived.Test.YtlpmfgmldmdggaaGreatK22
open Go Go.RM
namespace Go.Proofs.YtlpmfgmldmdggaaGreat
set_option maxRecDepth 100000
set_option maxHeartbeats 4000000
theorem HI (one:Bool) (c:aS) (h:c.Ok) (p:dm):Pu one 37 [.ag (aM c),.ag (cw p)] (Lm c p):=by
 have o0:=rQ one c h p;unfold Lm;by_cases he:sg c p=0
 ·obtain ⟨hg,hp⟩:=yz he;rw [he] at o0;rw [if_pos he,he];have hho:=fun x=>HH one c hg p hp x;have hbe:=fun i hi n hn=>s9 one c hg p hp i hi n hn;have em:((c.aH.map bq).length:Int)=c.aH.length:=by simp
  have hm5:=hg.aH;have d0:(!decide ((0:Int)=0))=false:=by decide
  unfold Mp Mj;obtain ⟨t,d,aw⟩:=p;obtain ⟨p1,p2,p3⟩:=hp
  dsimp only at *
  obtain ⟨tn,htn⟩:∃ tn:Nat,t=tn:=⟨t.toNat,by omega⟩;subst htn;change Pu one 30 [.ag (aM c),.ag [af (tn:Nat),af d,af aw]] _ at o0;show Pu one 37 [.ag (aM c),.ag [af (tn:Nat),af d,af aw]] (.tp [af (r0 (jn c ⟨(tn:Int),d,aw⟩) (ck (fun (i k:Nat)=>ct c ⟨(tn:Int),d,aw⟩ i (k:Int)) (tn+1) c.aH.length)).1,af 0]);refine ak.body (fn:=Tryz.f37) rfl rfl rfl rfl ?_;refine qq1 ?_;repeat' first|refine u1 ?_|((with_reducible refine qq3 ?_);refine ak.call o0 rfl rfl ?_)|refine u2 ?_|fail
  refine aB.aP (ah.to (l:=[(2,.pt (aM c) 0),(3,.pt [af (tn:Nat),af d,af aw] 0),(7,af ((r0 (jn c ⟨(tn:Int),d,aw⟩) (ck (fun (i k:Nat)=>ct c ⟨(tn:Int),d,aw⟩ i (k:Int)) (tn+1) 0))).1),(8,BB ((r0 (jn c ⟨(tn:Int),d,aw⟩) (ck (fun (i k:Nat)=>ct c ⟨(tn:Int),d,aw⟩ i (k:Int)) (tn+1) 0))).2),(9,af (0:Nat))]) (hp:=[]) 0 rfl ⟨rfl,rfl,rfl,rfl,rfl,trivial⟩ (qq5 _) rfl rfl) ?_;refine aB.loop (fun i:Nat=>i≤c.aH.length) (fun i=>⟨aL [(2,.pt (aM c) 0),(3,.pt [af (tn:Nat),af d,af aw] 0),(7,af ((r0 (jn c ⟨(tn:Int),d,aw⟩) (ck (fun (i k:Nat)=>ct c ⟨(tn:Int),d,aw⟩ i (k:Int)) (tn+1) i))).1),(8,BB ((r0 (jn c ⟨(tn:Int),d,aw⟩) (ck (fun (i k:Nat)=>ct c ⟨(tn:Int),d,aw⟩ i (k:Int)) (tn+1) i))).2),(9,af (i:Nat))],[],bp.none,false,0⟩) (fun i=>c.aH.length - i) ?_ 0 (qq5 _);intro i hi;by_cases hlt:i < c.aH.length
  ·have dl:decide ((i:Int) < ((c.aH.map bq).length:Int))=true:=decide_eq_true (by omega);have hn0:ck (fun (i k:Nat)=>ct c ⟨(tn:Int),d,aw⟩ i (k:Int)) (tn+1) i++dS (fun (k:Nat)=>ct c ⟨(tn:Int),d,aw⟩ i (k:Int)) 0=ck (fun (i k:Nat)=>ct c ⟨(tn:Int),d,aw⟩ i (k:Int)) (tn+1) i:=List.append_nil _;have hn1:ck (fun (i k:Nat)=>ct c ⟨(tn:Int),d,aw⟩ i (k:Int)) (tn+1) (i+1)=ck (fun (i k:Nat)=>ct c ⟨(tn:Int),d,aw⟩ i (k:Int)) (tn+1) i++dS (fun (k:Nat)=>ct c ⟨(tn:Int),d,aw⟩ i (k:Int)) (tn+1):=rfl;refine qq1 ?_;repeat' first|refine u1 ?_|refine u2 ?_|fail
   refine aB.aP (ah.to (l:=[(2,.pt (aM c) 0),(3,.pt [af (tn:Nat),af d,af aw] 0),(7,af ((r0 (jn c ⟨(tn:Int),d,aw⟩) (ck (fun (i k:Nat)=>ct c ⟨(tn:Int),d,aw⟩ i (k:Int)) (tn+1) i++dS (fun (k:Nat)=>ct c ⟨(tn:Int),d,aw⟩ i (k:Int)) 0))).1),(8,BB ((r0 (jn c ⟨(tn:Int),d,aw⟩) (ck (fun (i k:Nat)=>ct c ⟨(tn:Int),d,aw⟩ i (k:Int)) (tn+1) i++dS (fun (k:Nat)=>ct c ⟨(tn:Int),d,aw⟩ i (k:Int)) 0))).2),(9,af (i:Nat)),(10,af (0:Nat))]) (hp:=[]) 0 rfl ⟨rfl,rfl,by rw [hn0];rfl,by rw [hn0];rfl,rfl,rfl,trivial⟩ (qq5 _) rfl rfl) ?_;refine aB.loop (fun k:Nat=>k≤tn+1) (fun k=>⟨aL [(2,.pt (aM c) 0),(3,.pt [af (tn:Nat),af d,af aw] 0),(7,af ((r0 (jn c ⟨(tn:Int),d,aw⟩) (ck (fun (i k:Nat)=>ct c ⟨(tn:Int),d,aw⟩ i (k:Int)) (tn+1) i++dS (fun (k:Nat)=>ct c ⟨(tn:Int),d,aw⟩ i (k:Int)) k))).1),(8,BB ((r0 (jn c ⟨(tn:Int),d,aw⟩) (ck (fun (i k:Nat)=>ct c ⟨(tn:Int),d,aw⟩ i (k:Int)) (tn+1) i++dS (fun (k:Nat)=>ct c ⟨(tn:Int),d,aw⟩ i (k:Int)) k))).2),(9,af (i:Nat)),(10,af (k:Nat))],[],bp.none,false,0⟩) (fun k=>tn+1 - k) ?_ 0 (qq5 _);intro k hk;by_cases hkt:k≤tn
   ·have d1:decide ((k:Int)≤((tn:Nat):Int))=true:=decide_eq_true (by omega);have o1:=hbe i hlt k (by omega);change Pu one 90 [.ag (aM c),.ag [af (tn:Nat),af d,af aw],af (i:Int),af (k:Int)] _ at o1;have o2:=hho (ct c ⟨(tn:Int),d,aw⟩ i (k:Int));change Pu one 50 [.ag (aM c),.ag [af (tn:Nat),af d,af aw],_] _ at o2;have hnx:(r0 (jn c ⟨(tn:Int),d,aw⟩) (ck (fun (i k:Nat)=>ct c ⟨(tn:Int),d,aw⟩ i (k:Int)) (tn+1) i++dS (fun (k:Nat)=>ct c ⟨(tn:Int),d,aw⟩ i (k:Int)) (k+1)))=C5 (jn c ⟨(tn:Int),d,aw⟩) (r0 (jn c ⟨(tn:Int),d,aw⟩) (ck (fun (i k:Nat)=>ct c ⟨(tn:Int),d,aw⟩ i (k:Int)) (tn+1) i++dS (fun (k:Nat)=>ct c ⟨(tn:Int),d,aw⟩ i (k:Int)) k)) (ct c ⟨(tn:Int),d,aw⟩ i (k:Int)):=by rw [←HD,List.append_assoc];rfl
    generalize ct c ⟨(tn:Int),d,aw⟩ i (k:Int)=v at *
    generalize hss:(r0 (jn c ⟨(tn:Int),d,aw⟩) (ck (fun (i k:Nat)=>ct c ⟨(tn:Int),d,aw⟩ i (k:Int)) (tn+1) i++dS (fun (k:Nat)=>ct c ⟨(tn:Int),d,aw⟩ i (k:Int)) k))=s at *
    obtain ⟨m,b⟩:=s
    cases hh:jn c ⟨(tn:Int),d,aw⟩ v with
    | false =>
     rw [hh] at o2;have hm:C5 (jn c ⟨(tn:Int),d,aw⟩) (m,b) v=(m,b):=by unfold C5;rw [hh];rfl
     refine qq1 ?_;repeat' first|refine u1 ?_|((with_reducible refine qq3 ?_);refine ak.call o1 rfl rfl ?_)|((with_reducible refine qq3 ?_);refine ak.call o2 rfl rfl ?_)|refine u2 ?_|fail
     exact ⟨k+1,by omega,(by dsimp only;omega),ah.to (l:=[(2,.pt (aM c) 0),(3,.pt [af (tn:Nat),af d,af aw] 0),(7,af ((r0 (jn c ⟨(tn:Int),d,aw⟩) (ck (fun (i k:Nat)=>ct c ⟨(tn:Int),d,aw⟩ i (k:Int)) (tn+1) i++dS (fun (k:Nat)=>ct c ⟨(tn:Int),d,aw⟩ i (k:Int)) (k+1)))).1),(8,BB ((r0 (jn c ⟨(tn:Int),d,aw⟩) (ck (fun (i k:Nat)=>ct c ⟨(tn:Int),d,aw⟩ i (k:Int)) (tn+1) i++dS (fun (k:Nat)=>ct c ⟨(tn:Int),d,aw⟩ i (k:Int)) (k+1)))).2),(9,af (i:Nat)),(10,af (k+1:Nat))]) 0 rfl ⟨rfl,rfl,by rw [hnx,hm];rfl,by rw [hnx,hm];rfl,rfl,aD (by simp),trivial⟩ (qq5 _) rfl rfl⟩
    | true =>
     rw [hh] at o2
     cases b with
     | false =>
      have hm:C5 (jn c ⟨(tn:Int),d,aw⟩) (m,false) v=(v,true):=by unfold C5;rw [hh];rfl
      refine qq1 ?_;repeat' first|refine u1 ?_|((with_reducible refine qq3 ?_);refine ak.call o1 rfl rfl ?_)|((with_reducible refine qq3 ?_);refine ak.call o2 rfl rfl ?_)|refine u2 ?_|fail
      exact ⟨k+1,by omega,(by dsimp only;omega),ah.to (l:=[(2,.pt (aM c) 0),(3,.pt [af (tn:Nat),af d,af aw] 0),(7,af ((r0 (jn c ⟨(tn:Int),d,aw⟩) (ck (fun (i k:Nat)=>ct c ⟨(tn:Int),d,aw⟩ i (k:Int)) (tn+1) i++dS (fun (k:Nat)=>ct c ⟨(tn:Int),d,aw⟩ i (k:Int)) (k+1)))).1),(8,BB ((r0 (jn c ⟨(tn:Int),d,aw⟩) (ck (fun (i k:Nat)=>ct c ⟨(tn:Int),d,aw⟩ i (k:Int)) (tn+1) i++dS (fun (k:Nat)=>ct c ⟨(tn:Int),d,aw⟩ i (k:Int)) (k+1)))).2),(9,af (i:Nat)),(10,af (k+1:Nat))]) 0 rfl ⟨rfl,rfl,by rw [hnx,hm];rfl,by rw [hnx,hm];rfl,rfl,aD (by simp),trivial⟩ (qq5 _) rfl rfl⟩
     | true =>
      cases hl:decide (v < m) with
      | false =>
       have hm:C5 (jn c ⟨(tn:Int),d,aw⟩) (m,true) v=(m,true):=by unfold C5;rw [hh,hl];rfl
       refine qq1 ?_;repeat' first|refine u1 ?_|((with_reducible refine qq3 ?_);refine ak.call o1 rfl rfl ?_)|((with_reducible refine qq3 ?_);refine ak.call o2 rfl rfl ?_)|refine u2 ?_|fail
       exact ⟨k+1,by omega,(by dsimp only;omega),ah.to (l:=[(2,.pt (aM c) 0),(3,.pt [af (tn:Nat),af d,af aw] 0),(7,af ((r0 (jn c ⟨(tn:Int),d,aw⟩) (ck (fun (i k:Nat)=>ct c ⟨(tn:Int),d,aw⟩ i (k:Int)) (tn+1) i++dS (fun (k:Nat)=>ct c ⟨(tn:Int),d,aw⟩ i (k:Int)) (k+1)))).1),(8,BB ((r0 (jn c ⟨(tn:Int),d,aw⟩) (ck (fun (i k:Nat)=>ct c ⟨(tn:Int),d,aw⟩ i (k:Int)) (tn+1) i++dS (fun (k:Nat)=>ct c ⟨(tn:Int),d,aw⟩ i (k:Int)) (k+1)))).2),(9,af (i:Nat)),(10,af (k+1:Nat))]) 0 rfl ⟨rfl,rfl,by rw [hnx,hm];rfl,by rw [hnx,hm];rfl,rfl,aD (by simp),trivial⟩ (qq5 _) rfl rfl⟩
      | true =>
       have hm:C5 (jn c ⟨(tn:Int),d,aw⟩) (m,true) v=(v,true):=by unfold C5;rw [hh,hl];rfl
       refine qq1 ?_;repeat' first|refine u1 ?_|((with_reducible refine qq3 ?_);refine ak.call o1 rfl rfl ?_)|((with_reducible refine qq3 ?_);refine ak.call o2 rfl rfl ?_)|refine u2 ?_|fail
       exact ⟨k+1,by omega,(by dsimp only;omega),ah.to (l:=[(2,.pt (aM c) 0),(3,.pt [af (tn:Nat),af d,af aw] 0),(7,af ((r0 (jn c ⟨(tn:Int),d,aw⟩) (ck (fun (i k:Nat)=>ct c ⟨(tn:Int),d,aw⟩ i (k:Int)) (tn+1) i++dS (fun (k:Nat)=>ct c ⟨(tn:Int),d,aw⟩ i (k:Int)) (k+1)))).1),(8,BB ((r0 (jn c ⟨(tn:Int),d,aw⟩) (ck (fun (i k:Nat)=>ct c ⟨(tn:Int),d,aw⟩ i (k:Int)) (tn+1) i++dS (fun (k:Nat)=>ct c ⟨(tn:Int),d,aw⟩ i (k:Int)) (k+1)))).2),(9,af (i:Nat)),(10,af (k+1:Nat))]) 0 rfl ⟨rfl,rfl,by rw [hnx,hm];rfl,by rw [hnx,hm];rfl,rfl,aD (by simp),trivial⟩ (qq5 _) rfl rfl⟩
   ·have d1:decide ((k:Int)≤((tn:Nat):Int))=false:=decide_eq_false (by omega);have hkk:k=tn+1:=by omega
    subst hkk;refine qq1 ?_;repeat' first|refine u1 ?_|refine u2 ?_|fail
    exact ⟨i+1,hlt,(by dsimp only;omega),ah.to (l:=[(2,.pt (aM c) 0),(3,.pt [af (tn:Nat),af d,af aw] 0),(7,af ((r0 (jn c ⟨(tn:Int),d,aw⟩) (ck (fun (i k:Nat)=>ct c ⟨(tn:Int),d,aw⟩ i (k:Int)) (tn+1) (i+1)))).1),(8,BB ((r0 (jn c ⟨(tn:Int),d,aw⟩) (ck (fun (i k:Nat)=>ct c ⟨(tn:Int),d,aw⟩ i (k:Int)) (tn+1) (i+1)))).2),(9,af (i+1:Nat))]) 0 rfl ⟨rfl,rfl,rfl,rfl,aD (by simp),trivial⟩ (qq5 _) rfl rfl⟩
  ·have dl:decide ((i:Int) < ((c.aH.map bq).length:Int))=false:=decide_eq_false (by omega);have hil:i=c.aH.length:=by omega
   subst hil;refine qq1 ?_;repeat' first|refine u1 ?_|refine u2 ?_|fail
   exact ⟨[_,_],⟨Fz.deep rfl,Fz.deep rfl,trivial⟩,rfl⟩
 ·have d1:(!decide (sg c p=0))=true:=by rw [decide_eq_false he];rfl
  rw [if_neg he]
  generalize sg c p=e at *
  refine ak.body (fn:=Tryz.f37) rfl rfl rfl rfl ?_;refine qq1 ?_;repeat' first|refine u1 ?_|((with_reducible refine qq3 ?_);refine ak.call o0 rfl rfl ?_)|refine u2 ?_|fail
  exact ⟨[_,_],⟨Fz.deep rfl,Fz.deep rfl,trivial⟩,rfl⟩
end Go.Proofs.YtlpmfgmldmdggaaGreat
open Go Go.RM
namespace Go.Proofs.YtlpmfgmldmdggaaGreat
set_option maxRecDepth 100000
set_option maxHeartbeats 4000000
theorem Mk {c:aS} (hg:Good c) {p:dm} (hp:wM p):(C2 c p).length≤4∧∀ l ∈ C2 c p,l.length≤maxLen:=by have h:=(Jw hg hp).2;have:=hp.turns;unfold C2;refine ⟨by rw [List.length_map];omega,fun l hl=>?_⟩;obtain ⟨a,_,rfl⟩:=List.mem_map.1 hl;have:=jK a 5;unfold cV;simp only [maxLen];omega
theorem HJ (c:aS) (h:c.Ok) (p:dm):Pu false 6 [.ag (aM c),.ag (cw p)] (BB true):=by
 have o1:=EO false c h p;have o2:=C4 false c h p;have o3:=JB false c h p;have o4:=HI false c h p;have aw:=MF false;have dz:∀ z:Int,decide (z=z)=true:=fun z=>decide_eq_true rfl;have dn:∀ z:Int,(!decide (z=z))=false:=fun z=>by rw [dz z];rfl
 obtain ⟨T,n,e,hv,hT⟩:∃ (T:List (List Int)) (n e:Int),EM c p=.tp [.sl (T.map eL) false,af n,af e]∧(T.length≤4∧∀ l ∈ T,l.length≤maxLen):=by
  unfold EM;by_cases he:sg c p=0
  ·obtain ⟨hg,hp⟩:=yz he;rw [if_pos he];exact ⟨_,_,_,rfl,Mk hg hp⟩
  ·rw [if_neg he];exact ⟨[],_,_,rfl,by decide,fun l hl=>nomatch hl⟩
 rw [hv] at o1 o2;have o5:=ER false T false false (by omega) hT.2;obtain ⟨x,y,hw⟩:∃ x y:Int,Lm c p=.tp [af x,af y]:=by unfold Lm;split <;> exact ⟨_,_,rfl⟩
 rw [hw] at o3 o4;have d1:=dz x;have d2:=dz y;have d3:=dn n;have d4:=dn e;refine ak.body (fn:=Tryz.f6) rfl rfl rfl rfl ?_;refine qq1 ?_;repeat' first|refine u1 ?_|((with_reducible refine qq3 ?_);refine ak.call o1 rfl rfl ?_)|((with_reducible refine qq3 ?_);refine ak.call o2 rfl rfl ?_)|((with_reducible refine qq3 ?_);refine ak.call o3 rfl rfl ?_)|((with_reducible refine qq3 ?_);refine ak.call o4 rfl rfl ?_)|((with_reducible refine qq3 ?_);refine ak.call o5 rfl rfl ?_)|((with_reducible refine qq3 ?_);refine ak.call aw rfl rfl ?_)|refine u2 ?_|fail
 exact ⟨[_],⟨Fz.deep rfl,trivial⟩,rfl⟩
