/-
  Contracts of the program's functions and of the document's. Lemmas alone; their conditions stand in them.
-/
import Derived.Test.YtichbhmnhkegiaaGreatVK4
import Derived.Test.YtichbhmnhkegiaaGreatVK7
import Derived.Test.YtichbhmnhkegiaaGreatVK10
import Derived.Test.YtichbhmnhkegiaaGreatVK11
open Go Go.RM Go.AirLaw
namespace Go.Proofs.YtichbhmnhkegiaaGreat
set_option maxRecDepth 100000
set_option maxHeartbeats 4000000
theorem mG (v:Int × Int→Int):∀ {L:List (Int × Int)},L ≠ []→(∃ x ∈ L,v x=(aG v L).1.lo)∧(∃ x ∈ L,v x=(aG v L).1.hi)∧∀ x ∈ L,(aG v L).1.lo≤v x∧v x≤(aG v L).1.hi:=by
 intro L
 induction hn:L.length generalizing L with
 | zero=>intro h;exact absurd (List.length_eq_zero_iff.1 hn) h
 | succ n ih =>
  intro hL
  obtain ⟨l,x,rfl⟩:∃ l x,L=l++[x]:=⟨L.dropLast,L.getLast hL,(List.dropLast_concat_getLast hL).symm⟩
  cases l with
  | nil =>
   rw [List.nil_append,CP]
   exact ⟨⟨x,by simp,rfl⟩,⟨x,by simp,rfl⟩,fun y hy=>by rw [List.mem_singleton.1 hy];exact ⟨Int.le_refl _,Int.le_refl _⟩⟩
  | cons a l =>
   have hne:a :: l ≠ []:=by simp
   obtain ⟨⟨y,hy,ey⟩,⟨z,hz,ez⟩,hall⟩:=ih (L:=a :: l) (by simp at hn;simp;omega) hne
   rw [vg]
   unfold fU
   rw [qm v hne]
   simp only [if_true]
   refine ⟨?_,?_,fun w hw=>?_⟩
   ·by_cases h:(aG v (a :: l)).1.lo≤v x
    ·exact ⟨y,List.mem_append_left _ hy,by rw [ey];omega⟩
    ·exact ⟨x,List.mem_append_right _ (by simp),by omega⟩
   ·by_cases h:v x≤(aG v (a :: l)).1.hi
    ·exact ⟨z,List.mem_append_left _ hz,by rw [ez];omega⟩
    ·exact ⟨x,List.mem_append_right _ (by simp),by omega⟩
   ·rcases List.mem_append.1 hw with hw|hw
    ·have:=hall w hw;omega
    ·rw [List.mem_singleton.1 hw];omega
theorem kZ {c r:Int} {far:Int} (hc:0≤c) (hr:0≤r) (hf:0≤far∧far≤60000):ct far 0 c r=true ↔ far≤jd c r:=by
 obtain ⟨d,rfl⟩:∃ d:Nat,far=d:=⟨far.toNat,by omega⟩
 show cH c r d=true ↔ _
 unfold jd
 constructor
 ·intro h
  have:=lQ (p:=cH c r) (n:=60000) (d:=d) (by omega) h
  omega
 ·intro h
  exact jc hc (Int.le_refl _) hr (Int.le_refl _) (show d≤most (cH c r) 60000 by omega) (kr (jb hc) 60000)
def wI (s:au) (n:aE) (clo olo:Int) (g:Nat):Int:=if (g:Int)=n.cM then olo else jd (gr s g).cand.lo clo
theorem CY {s:au} (n:aE) (hf:s.EC) {L:List (Int × Int)} (hne:L ≠ []) (hL:∀ x ∈ L,(0≤x.1∧x.1≤5000)∧0≤x.2∧x.2≤300) {g:Nat} (hg:g < s.aj.length) {far:Int} (hfar:0≤far∧far≤60000) :
  Av s n L far g=true ↔ far≤wI s n (aG Prod.snd L).1.lo (aG ek L).1.lo g:=by
 unfold Av CQ wI
 rw [List.all_eq_true]
 by_cases hgn:(g:Int)=n.cM
 ·simp only [if_pos hgn]
  obtain ⟨⟨y,hy,ey⟩,_,hall⟩:=mG ek hne
  constructor
  ·intro h
   have h1:=h y hy
   have hb:=hL y hy
   rw [kZ hb.1.1 hb.2.1 hfar] at h1
   rw [←ey]
   exact h1
  ·intro h x hx
   have hb:=hL x hx
   rw [kZ hb.1.1 hb.2.1 hfar]
   have h2:(aG ek L).1.lo≤jd x.1 x.2:=(hall x hx).1
   omega
 ·simp only [if_neg hgn]
  have hc:=hf.cand _ (CS hg)
  obtain ⟨⟨y,hy,ey⟩,_,hall⟩:=mG Prod.snd hne
  constructor
  ·intro h
   have h1:=h y hy
   have hb:=hL y hy
   rw [kZ (by omega) hb.2.1 hfar,ey] at h1
   exact h1
  ·intro h x hx
   have hb:=hL x hx
   have hby:=hL y hy
   rw [←ey] at h
   rw [←kZ (by omega) hby.2.1 hfar] at h
   have:=(hall x hx).1
   unfold ct at h ⊢
   exact m8 (by omega) (Int.le_refl _) hby.2.1 (by rw [ey];exact this) (Int.le_refl _) h
theorem nI (iq:Nat→Int) (D:Nat→Bool):∀ N,(lA iq D N=-1∧∀ k,k < N→D k=false)∨∃ b:Nat,b < N∧lA iq D N=b∧D b=true∧∀ k,k < N→D k=true→k=b∨iq b < iq k∨iq b=iq k∧b < k
 | 0=>.inl ⟨rfl,fun k hk=>absurd hk (Nat.not_lt_zero _)⟩
 | N+1=>by
  have e:lA iq D (N+1)=if D N=true∧(lA iq D N < 0∨iq N < iq (lA iq D N).toNat) then ((N:Nat):Int) else lA iq D N:=rfl
  rw [e]
  rcases nI iq D N with ⟨h1,h2⟩|⟨b,h0,h1,h2,h3⟩
  ·rw [h1]
   by_cases hD:D N=true
   ·rw [if_pos ⟨hD,.inl (by decide)⟩]
    refine .inr ⟨N,by omega,rfl,hD,fun k hk hk2=>?_⟩
    by_cases hkN:k=N
    ·exact .inl hkN
    ·rw [h2 k (by omega)] at hk2;cases hk2
   ·rw [if_neg (fun h=>hD h.1)]
    refine .inl ⟨rfl,fun k hk=>?_⟩
    by_cases hkN:k=N
    ·rw [hkN];simpa using hD
    ·exact h2 k (by omega)
  ·rw [h1,Int.toNat_natCast]
   by_cases hc:D N=true∧(((b:Nat):Int) < 0∨iq N < iq b)
   ·rw [if_pos hc]
    have ho:iq N < iq b:=by rcases hc.2 with h|h;omega;exact h
    refine .inr ⟨N,by omega,rfl,hc.1,fun k hk hk2=>?_⟩
    by_cases hkN:k=N
    ·exact .inl hkN
    ·rcases h3 k (by omega) hk2 with h|h|h
     ·rw [h];exact .inr (.inl ho)
     ·exact .inr (.inl (by omega))
     ·exact .inr (.inl (by omega))
   ·rw [if_neg hc]
    refine .inr ⟨b,by omega,rfl,h2,fun k hk hk2=>?_⟩
    by_cases hkN:k=N
    ·rw [hkN] at hk2 ⊢
     have:¬ iq N < iq b:=fun h=>hc ⟨hk2,.inr h⟩
     omega
    ·exact h3 k (by omega) hk2
def yD (s:au) (a b:Int):Int:=eJ (hG s a.toNat) (hG s b.toNat)
theorem DP (s:au):Aw (yD s):=by
 constructor
 ·intro a b h
  unfold yD eJ at *
  generalize hG s a.toNat=x at *
  generalize hG s b.toNat=y at *
  repeat' split at h
  all_goals repeat' split
  all_goals omega
 ·intro a b d h k
  unfold Rb yD eJ at *
  generalize hG s a.toNat=x at *
  generalize hG s b.toNat=y at *
  generalize hG s d.toNat=z at *
  repeat' split at h
  all_goals repeat' split at k
  all_goals repeat' split
  all_goals omega
theorem tC {iq:Nat→Int} {s:au} (ho:iq=hG s) {D:Nat→Bool} {N:Nat} {S:List Int} (hs:lZ (yD s) S N) (hSl:S.length=N) (hmem:∀ b:Nat,b < N→(b:Int) ∈ S) {k a:Nat} (ha:a < N) (ea:S.getD k 0=a) (hD:D a=true) (hprev:∀ p,p < k→∀ b:Nat,S.getD p 0=b→D b=false):lA iq D N=(a:Int):=by
 rcases nI iq D N with ⟨h1,h2⟩|⟨b,h0,h1,h2,h3⟩
 ·rw [h2 a ha] at hD;cases hD
 ·rw [h1]
  obtain ⟨q,hq,eq⟩:=List.getElem_of_mem (hmem b h0)
  have eq':S.getD q 0=b:=by rw [List.getD_eq_getElem?_getD,List.getElem?_eq_getElem hq,←eq];rfl
  rcases Nat.lt_trichotomy q k with hqk|hqk|hqk
  ·rw [hprev q hqk b eq'] at h2;cases h2
  ·rw [hqk,ea] at eq';exact eq'.symm
  ·have hr:=hs k q hqk (by omega)
   rw [ea,eq'] at hr
   unfold Rb yD eJ at hr
   rw [Int.toNat_natCast,Int.toNat_natCast,←ho] at hr
   rcases h3 a ha hD with h|h|h
   ·rw [h]
   ·repeat' split at hr
    all_goals omega
   ·repeat' split at hr
    all_goals omega
end Go.Proofs.YtichbhmnhkegiaaGreat
open Go Go.RM Go.AirLaw
namespace Go.Proofs.YtichbhmnhkegiaaGreat
set_option maxRecDepth 100000
set_option maxHeartbeats 4000000
theorem Ay (one:Bool) (s:au) (h:s.Ok) (n:aE) (rs:List aA) (f:Bool) (hr:rs.length≤maxLen) (far:Int) :
  Pu one 37 [.ag (bz s),.ag (gu n),.sl (rs.map az) f,ah far] (.tp [ah (tw s n rs far).1,ah (tw s n rs far).2]):=by
 have hen:=mz one s h n rs f hr
 have o1:=ir one 0 60000 far
 unfold tw
 by_cases e0:(bT s n rs).2=0
 ·rw [if_neg (by omega)]
  have ho:=iD e0
  rw [e0] at hen
  have d0:(!decide ((0:Int)=0))=false:=by decide
  cases e1:bg 0 60000 [far] with
  | true =>
   rw [e1] at o1
   rw [if_pos rfl]
   refine af.body (fn:=Tryz.f37) rfl rfl rfl rfl ?_
   refine aa (mu:=fun _=>false) ?_
   repeat' (first |refine u1 ?_ |fail)
   exact ⟨[_,_],⟨Fz.deep rfl,Fz.deep rfl,trivial⟩,rfl⟩
  | false =>
   rw [e1] at o1
   rw [if_neg (by simp)]
   have hfar:=(aI.1 e1) far (by simp)
   have c1:=kC true f ho
   have c2:=ho.cl true f
   have hgen:=ho.gl one f
   have e2:=mD one 95 [] [] rfl _ _ _ Prod.snd _ hgen (fun x hx=>EG one x.1 x.2)
   have e3:=mD one 94 [] [] rfl _ _ _ ek _ hgen (fun x hx=>wz one x.1 x.2 (iE ho hx).1 (iE ho hx).2)
   have hmem:∀ x ∈ cC s n rs,(0≤x.1∧x.1≤5000)∧0≤x.2∧x.2≤300:=fun x hx=>iE ho hx
   have hdi:=fun hne {g:Nat} (hg:g < s.aj.length)=>CY (L:=cC s n rs) n ho.mM hne hmem hg hfar
   have hcl:cC s n rs ≠ []→0≤(aG Prod.snd (cC s n rs)).1.lo∧(aG Prod.snd (cC s n rs)).1.lo≤300:=fun hne=>by
    obtain ⟨⟨y,hy,ey⟩,_⟩:=mG Prod.snd hne
    have:=hmem y hy
    omega
   have htr:(aG Prod.snd (cC s n rs)).2=true ↔ cC s n rs ≠ []:=⟨fun h hn=>(by rw [hn] at h;cases h),fun h=>qm _ h⟩
   rw [CM]
   unfold CT
   by_cases hL:cC s n rs=[]
   ·rw [if_pos hL]
    rw [hL] at e2
    refine af.body (fn:=Tryz.f37) rfl rfl rfl rfl ?_
    refine aa (mu:=fun _=>false) ?_
    repeat' (first |refine u1 ?_ |refine u2 ?_ |fail)
    exact ⟨[_,_],⟨Fz.deep rfl,Fz.deep rfl,trivial⟩,rfl⟩
   ·rw [if_neg hL]
    have hdi2:=fun {g:Nat} (hg:g < s.aj.length)=>hdi hL hg
    have hcl2:=hcl hL
    have htt:=htr.2 hL
    clear hdi hcl
    generalize Av s n (cC s n rs) far=D at *
    generalize aG Prod.snd (cC s n rs)=ZZ at *
    generalize aG ek (cC s n rs)=OO at *
    obtain ⟨Z,zt⟩:=ZZ
    obtain ⟨O,ot⟩:=OO
    dsimp only at htt hdi2 hcl2 e2 e3
    subst htt
    have h4:=ho.mM.len
    obtain ⟨N,hN⟩:∃ N,s.aj.length=N:=⟨_,rfl⟩
    have eg:((s.aj.map aT).length:Int)=N:=by simp [hN]
    rw [hN] at h4 ⊢
    clear hgen c1 htr hmem
    have c1:=kC true f ho
    have hcm:∀ (o:Bool) (a b:Nat),a < N→b < N→af TT TB o (.fn 99 [] [.pt (bz s) 0]) [ah a,ah b] (ah (yD s a b)):=fun o a b ha hb=>by
     have:=EN o s a b (by omega) (by omega)
     unfold yD
     rw [Int.toNat_natCast,Int.toNat_natCast]
     exact this
    have hnum:Pu one 97 [.ag (bw ⟨0,((s.aj.map aT).length:Int) - 1⟩)] (zy ⟨0,(N:Int) - 1⟩):=by rw [eg];exact kz one _
    have hLl:(cU ⟨0,(N:Int) - 1⟩).length=N:=by rw [bV];unfold bU;dsimp only;omega
    have hLq:∀ q,q < N→(cU ⟨0,(N:Int) - 1⟩).getD q 0=q:=fun q hq=>by
     rw [List.getD_eq_getElem?_getD,Aj (by unfold bU;dsimp only;omega)]
     show (0:Int)+q=q
     omega
    refine af.body (fn:=Tryz.f37) rfl rfl rfl rfl ?_
    refine aa (mu:=fun _=>false) ?_
    repeat' (first |refine Bu one _ _ _ rfl rfl rfl N h4 ?_ |refine wH one (yD s) (DP s) 99 [] [.pt (bz s) 0] rfl rfl rfl rfl rfl rfl N h4.2 hcm _ hLl hLq (fun S hso hpe=>?_) |refine u1 ?_ |refine u2 ?_ |fail)
    have hSl:S.length=N:=by rw [hpe.length_eq,hLl]
    have hin:∀ b:Nat,b < N→(b:Int) ∈ S:=fun b hb=>hpe.mem_iff.2 (oV.2 (by dsimp only;omega))
    have hof:∀ q,q < N→∃ a:Nat,a < N∧S.getD q 0=a:=fun q hq=>by
     have h1:S.getD q 0 ∈ S:=by
      rw [List.getD_eq_getElem?_getD,List.getElem?_eq_getElem (by omega)]
      exact List.getElem_mem _
     have h2:=oV.1 (hpe.mem_iff.1 h1)
     dsimp only at h2
     exact ⟨(S.getD q 0).toNat,by omega,by omega⟩
    obtain ⟨v,hv⟩:∃ v,v=N - 1:=⟨_,rfl⟩
    obtain ⟨c,hc⟩:∃ c,c=N+1:=⟨_,rfl⟩
    rw [←hv,←hc]
    refine av.aY (ai.to (l:=[(3,ah far),(4,.pt (bz s) 0),(5,.pt (gu n) 0),(13,.ptr 1 0 0),(15,.ptr 2 0 0),(62,.bF 4 v 0 N c),(63,ah (N:Nat)),(64,ah (0:Nat))]) (hp:=[.cells (bh s n rs f) 0 0,.cells (bw Z) 0 0,.cells (bw O) 0 0,.cells [.bF 4 v 0 N c] 0 0,e9 S v]) 5 rfl ⟨rfl,rfl,rfl,rfl,rfl,rfl,rfl,rfl,trivial⟩ (Nat.zero_le _) rfl (jS rfl rfl rfl rfl _ _)) ?_
    refine av.loop (fun k:Nat=>k≤N∧∀ p,p < k→∀ b:Nat,S.getD p 0=b→D b=false) (fun k=>⟨aP [(3,ah far),(4,.pt (bz s) 0),(5,.pt (gu n) 0),(13,.ptr 1 0 0),(15,.ptr 2 0 0),(62,.bF 4 v 0 N c),(63,ah (N:Nat)),(64,ah (k:Nat))],[.cells (bh s n rs f) 0 0,.cells (bw Z) 0 0,.cells (bw O) 0 0,.cells [.bF 4 v 0 N c] 0 0,e9 S v],bq.none,false,0⟩) (fun k=>N - k) ?_ 0 ⟨Nat.zero_le _,fun p hp=>absurd hp (Nat.not_lt_zero _)⟩
    rintro k ⟨hk,hprev⟩
    refine aa (mu:=fun _=>false) ?_
    by_cases hlt:k < N
    ·have d1:decide ((k:Int) < (N:Int))=true:=decide_eq_true (by omega)
     obtain ⟨a,ha,ea⟩:=hof k hlt
     have hgk:=oY (S:=S) (q:=k) (by omega)
     rw [ea] at hgk
     have hat:=CR (s:=s) (g:=a) (by omega)
     have hda:=hdi2 (g:=a) (by omega)
     have hcd:=ho.mM.cand _ (CS (s:=s) (g:=a) (by omega))
     have hrc:=wz true (gr s (a:Nat)).cand.lo Z.lo (by omega) hcl2
     unfold wI at hda
     by_cases hga:(a:Int)=n.cM
     ·have d2:(!decide ((a:Int)=n.cM))=false:=by rw [decide_eq_true hga];rfl
      rw [if_pos hga] at hda
      by_cases hfo:far≤O.lo
      ·have d3:=decide_eq_true hfo
       have hb:=tC (N:=N) (D:=D) rfl hso hSl hin ha ea (hda.2 hfo) hprev
       rw [hb,if_neg (by omega)]
       repeat' (first |((with_reducible show RM.wpOp _ _ (.load _ _) _ _ _);refine RM.A7 rfl rfl rfl hgk ?_) |refine u1 ?_ |fail)
       exact ⟨[_,_],⟨Fz.deep rfl,Fz.deep rfl,trivial⟩,rfl⟩
      ·have d3:=decide_eq_false hfo
       repeat' (first |((with_reducible show RM.wpOp _ _ (.load _ _) _ _ _);refine RM.A7 rfl rfl rfl hgk ?_) |refine u1 ?_ |fail)
       refine ⟨k+1,⟨hlt,fun p hp b hb=>?_⟩,(by dsimp only;omega),ai.to 5 rfl ⟨rfl,rfl,rfl,rfl,rfl,rfl,rfl,cG (by simp),trivial⟩ (Nat.zero_le _) rfl (jS rfl rfl rfl rfl _ _)⟩
       by_cases hpk:p=k
       ·rw [hpk,ea] at hb
        rw [←Int.ofNat.inj hb]
        cases hD:D a with
        | false=>rfl
        | true=>exact absurd (hda.1 hD) hfo
       ·exact hprev p (by omega) b hb
     ·have d2:(!decide ((a:Int)=n.cM))=true:=by rw [decide_eq_false hga];rfl
      rw [if_neg hga] at hda
      generalize jd (gr s (a:Nat)).cand.lo Z.lo=R at *
      by_cases hfo:far≤R
      ·have d3:=decide_eq_true hfo
       have hb:=tC (N:=N) (D:=D) rfl hso hSl hin ha ea (hda.2 hfo) hprev
       rw [hb,if_neg (by omega)]
       repeat' (first |((with_reducible show RM.wpOp _ _ (.load _ _) _ _ _);refine RM.A7 rfl rfl rfl hgk ?_) |refine u1 ?_ |refine u2 ?_ |fail)
       exact ⟨[_,_],⟨Fz.deep rfl,Fz.deep rfl,trivial⟩,rfl⟩
      ·have d3:=decide_eq_false hfo
       repeat' (first |((with_reducible show RM.wpOp _ _ (.load _ _) _ _ _);refine RM.A7 rfl rfl rfl hgk ?_) |refine u1 ?_ |refine u2 ?_ |fail)
       refine ⟨k+1,⟨hlt,fun p hp b hb=>?_⟩,(by dsimp only;omega),ai.to 5 rfl ⟨rfl,rfl,rfl,rfl,rfl,rfl,rfl,cG (by simp),trivial⟩ (Nat.zero_le _) rfl (jS rfl rfl rfl rfl _ _)⟩
       by_cases hpk:p=k
       ·rw [hpk,ea] at hb
        rw [←Int.ofNat.inj hb]
        cases hD:D a with
        | false=>rfl
        | true=>exact absurd (hda.1 hD) hfo
       ·exact hprev p (by omega) b hb
    ·have d1:decide ((k:Int) < (N:Int))=false:=decide_eq_false (by omega)
     have hb:lA (hG s) D N < 0:=by
      rcases nI (hG s) D N with ⟨h1,_⟩|⟨b,h0,_,h2,_⟩
      ·rw [h1];decide
      ·obtain ⟨q,hq,eq⟩:=List.getElem_of_mem (hin b h0)
       have eq':S.getD q 0=b:=by rw [List.getD_eq_getElem?_getD,List.getElem?_eq_getElem hq,←eq];rfl
       rw [hprev q (by omega) b eq'] at h2
       cases h2
     rw [if_pos hb]
     repeat' (first |refine u1 ?_ |fail)
     exact ⟨[_,_],⟨Fz.deep rfl,Fz.deep rfl,trivial⟩,rfl⟩
 ·rw [if_pos (by omega)]
  generalize bT s n rs=z at *
  have d0:(!decide (z.2=0))=true:=by rw [decide_eq_false e0];rfl
  refine af.body (fn:=Tryz.f37) rfl rfl rfl rfl ?_
  refine aa (mu:=fun _=>false) ?_
  repeat' (first |refine u1 ?_ |fail)
  exact ⟨[_,_],⟨Fz.deep rfl,Fz.deep rfl,trivial⟩,rfl⟩
end Go.Proofs.YtichbhmnhkegiaaGreat
open Go Go.RM Go.AirLaw
namespace Go.Proofs.YtichbhmnhkegiaaGreat
set_option maxRecDepth 100000
set_option maxHeartbeats 4000000
theorem CZ (one:Bool) (a b:List Int) (f g:Bool) (_:a.length≤maxLen) (hb:b.length≤maxLen):Pu one 32 [.sl (a.map eI) f,.sl (b.map eI) g] (BB (decide (a=b))):=by
 unfold maxLen at hb
 have ea:((a.map eI).length:Int)=a.length:=by simp
 have eb:((b.map eI).length:Int)=b.length:=by simp
 refine af.body (fn:=Tryz.f32) rfl rfl rfl rfl ?_
 refine aa (mu:=fun _=>false) ?_
 repeat' (first |refine u1 ?_ |fail)
 refine ⟨fun h=>?_,fun h=>?_⟩
 ·repeat' (first |refine u1 ?_ |fail)
  refine ⟨[_],⟨Fz.deep rfl,trivial⟩,Ew ?_⟩
  rw [ea,eb] at h
  symm
  rw [decide_eq_false_iff_not]
  rintro rfl
  simp at h
 ·have hl:a.length=b.length:=Int.ofNat_inj.1 (by rw [ea,eb] at h;simpa using h)
  repeat' (first |refine u1 ?_ |fail)
  refine av.aY (ai.to (l:=[(0,.sl (a.map eI) f),(1,.sl (b.map eI) g),(5,ah ((0:Nat):Int))]) 0 rfl ⟨rfl,rfl,rfl,trivial⟩ (Nat.le_refl _) rfl rfl) ?_
  refine av.loop (fun k:Nat=>k≤a.length∧∀ i (h:i < a.length),i < k→a[i]=b[i]) (fun k=>⟨aP [(0,.sl (a.map eI) f),(1,.sl (b.map eI) g),(5,ah (k:Int))],[],bq.none,false,0⟩) (fun k=>a.length - k) ?_ 0 ⟨Nat.zero_le _,fun i _ hi=>absurd hi (by omega)⟩
  intro k ⟨hk,hprev⟩
  refine aa (mu:=fun _=>false) ?_
  repeat' (first |refine u1 ?_ |fail)
  refine ⟨fun h=>?_,fun h=>?_⟩
  ·have hlt:k < a.length:=by simpa only [ea,decide_eq_true_eq,Int.ofNat_lt] using h
   have hltb:k < b.length:=by omega
   repeat' (first |refine u1 ?_ |((with_reducible show RM.wpOp _ _ (.indexAddr _ _ _) _ _ _);first|refine ⟨eI a[k],⟨by omega,fm hlt⟩,rfl,?_⟩|refine ⟨eI b[k],⟨by omega,fm hltb⟩,rfl,?_⟩) |refine u2 ?_ |((with_reducible show m5 _ _ _ _ (.cond _ _ _) _ _);refine RM.e1 rfl ⟨fun h=>?_,fun h=>?_⟩) |fail)
   ·refine ⟨[_],⟨Fz.deep rfl,trivial⟩,Ew ?_⟩
    symm
    rw [decide_eq_false_iff_not]
    rintro rfl
    simp_all
   ·refine ⟨k+1,⟨hlt,fun i hi hik=>?_⟩,(by dsimp only;omega),ai.to 0 rfl ⟨rfl,rfl,cG (by simp),trivial⟩ (Nat.le_refl _) rfl rfl⟩
    by_cases hik':i=k
    ·subst hik';simp_all
    ·exact hprev i hi (by omega)
  ·repeat' (first |refine u1 ?_ |fail)
   refine ⟨[_],⟨Fz.deep rfl,trivial⟩,Ew ?_⟩
   have hkl:k=a.length:=by rw [ea,decide_eq_false_iff_not] at h;omega
   symm
   rw [decide_eq_true_eq]
   exact List.ext_getElem hl fun i h1 _=>hprev i h1 (by omega)
theorem yE (one:Bool) (x y:Int):Pu one 43 [ah x,ah y] (.ag [ah x,ah y]):=by
 refine af.body (fn:=Tryz.f43) rfl rfl rfl rfl ?_
 refine aa (mu:=fun _=>false) ?_
 repeat' (first |refine u1 ?_ |refine u2 ?_ |fail)
 exact ⟨[_],⟨Fz.deep rfl,trivial⟩,rfl⟩
theorem k6 (one:Bool) (x y:Int):Pu one 45 [ah x,ah y] (.ag [ah x,ah y]):=by
 refine af.body (fn:=Tryz.f45) rfl rfl rfl rfl ?_
 refine aa (mu:=fun _=>false) ?_
 repeat' (first |refine u1 ?_ |refine u2 ?_ |fail)
 exact ⟨[_],⟨Fz.deep rfl,trivial⟩,rfl⟩
theorem oZ (one:Bool) (x y:Int) (h b:Bool):Pu one 70 [ah x,ah y,BB h,BB b] (.ag (az ⟨⟨x,y⟩,h,b⟩)):=by
 have hp:=yE one x y
 refine af.body (fn:=Tryz.f70) rfl rfl rfl rfl ?_
 refine aa (mu:=fun _=>false) ?_
 repeat' (first |refine u1 ?_ |refine u2 ?_ |fail)
 exact ⟨[_],⟨Fz.deep rfl,trivial⟩,rfl⟩
abbrev S0:au:=⟨[⟨⟨#[115,112,101,114,109]⟩,⟨400,420⟩,60⟩,⟨⟨#[114,97,112,101]⟩,⟨100,100⟩,40⟩],⟨20,30⟩,⟨50,120⟩⟩
abbrev N0:aE:=⟨⟨0,0⟩,0,8,1⟩
abbrev rA:aA:=⟨⟨0,10000⟩,false,true⟩
abbrev rB:aA:=⟨⟨13000,0⟩,false,false⟩
abbrev rH:aA:=⟨⟨3500,0⟩,true,true⟩
abbrev rN:aA:=⟨⟨0,10000⟩,false,false⟩
theorem C1 (one:Bool):Pu one 44 [] (.ag (az rA)):=by
 have hp:=oZ one 0 10000 false true
 refine af.body (fn:=Tryz.f44) rfl rfl rfl rfl ?_
 refine aa (mu:=fun _=>false) ?_
 repeat' (first |refine u1 ?_ |refine u2 ?_ |fail)
 exact ⟨[_],⟨Fz.deep rfl,trivial⟩,rfl⟩
theorem ES (one:Bool):Pu one 68 [] (.ag (az rB)):=by
 have hp:=oZ one 13000 0 false false
 refine af.body (fn:=Tryz.f68) rfl rfl rfl rfl ?_
 refine aa (mu:=fun _=>false) ?_
 repeat' (first |refine u1 ?_ |refine u2 ?_ |fail)
 exact ⟨[_],⟨Fz.deep rfl,trivial⟩,rfl⟩
theorem ET (one:Bool):Pu one 69 [] (.ag (az rH)):=by
 have hp:=oZ one 3500 0 true true
 refine af.body (fn:=Tryz.f69) rfl rfl rfl rfl ?_
 refine aa (mu:=fun _=>false) ?_
 repeat' (first |refine u1 ?_ |refine u2 ?_ |fail)
 exact ⟨[_],⟨Fz.deep rfl,trivial⟩,rfl⟩
theorem yF (one:Bool):Pu one 42 [] (.ag (gu N0)):=by
 refine af.body (fn:=Tryz.f42) rfl rfl rfl rfl ?_
 refine aa (mu:=fun _=>false) ?_
 repeat' (first |refine u1 ?_ |refine u2 ?_ |fail)
 exact ⟨[_],⟨Fz.deep rfl,trivial⟩,rfl⟩
theorem tD (one:Bool):Pu one 41 [] (.ag (bz S0)):=by
 have h1:=k6 one 400 420
 have h2:=k6 one 100 100
 have h3:=k6 one 20 30
 have h4:=k6 one 50 120
 refine af.body (fn:=Tryz.f41) rfl rfl rfl rfl ?_
 refine aa (mu:=fun _=>false) ?_
 repeat' (first |refine u1 ?_ |refine u2 ?_ |fail)
 refine ⟨[.ag (bz S0)],⟨Fz.ag rfl (fun i x y hx hy=>?_),trivial⟩,rfl⟩
 rcases i with _|_|_|_|_|i
 ·obtain rfl:=Option.some.inj hx
  obtain rfl:=Option.some.inj hy
  exact Fz.full
 iterate 4
  ·obtain rfl:=Option.some.inj hx
   obtain rfl:=Option.some.inj hy
   exact Fz.deep rfl
 ·cases hx
theorem nc:S0.Ok:=⟨by decide,by decide⟩
end Go.Proofs.YtichbhmnhkegiaaGreat
open Go Go.RM Go.AirLaw
namespace Go.Proofs.YtichbhmnhkegiaaGreat
set_option maxRecDepth 100000
set_option maxHeartbeats 4000000
theorem DQ:qi S0 N0 [rA,rB]=(⟨400,420⟩,⟨50,65⟩,0):=by kernel_rfl
theorem DS:tu S0 N0 [rH]=(⟨25,30⟩,[8],0):=by kernel_rfl
theorem DT:tv S0 N0 [rA] ⟨0,12000⟩ false=(1,0):=by kernel_rfl
theorem DU:tw S0 N0 [] 7000=(1,0):=by kernel_rfl
theorem EU:tw S0 N0 [] 10001=(0,9):=by kernel_rfl
theorem Fx:DF S0 1 90=(60,0):=by kernel_rfl
theorem DV:td ⟨0,10000⟩ 200 100=(true,0):=by kernel_rfl
theorem DW:td ⟨0,10000⟩ 199 100=(false,0):=by kernel_rfl
theorem DX:qh ⟨-1200,0⟩ 20 8=(true,0):=by kernel_rfl
theorem Fy:Bt S0 N0 []=(10000,14491,0):=by
 have hA:((cC S0 N0 []).all fun x=>decide (0≤x.1) && decide (0≤x.2) && cH x.1 x.2 10000 && !cH x.1 x.2 14492)=true:=by kernel_rfl
 have m1:(400,50) ∈ cC S0 N0 []:=List.elem_iff.1 (by kernel_rfl)
 have m2:(420,120) ∈ cC S0 N0 []:=List.elem_iff.1 (by kernel_rfl)
 have c1:cH 400 50 10001=false:=by kernel_rfl
 have c2:cH 420 120 14491=true:=by kernel_rfl
 have hb:∀ x ∈ cC S0 N0 [],10000≤ek x∧ek x≤14491:=by
  intro x hx
  have h:=List.all_eq_true.1 hA x hx
  simp only [Bool.and_eq_true,decide_eq_true_eq,Bool.not_eq_true'] at h
  obtain ⟨⟨⟨h1,h2⟩,h3⟩,h4⟩:=h
  unfold ek jd
  have a1:=lQ (p:=cH x.1 x.2) (n:=60000) (by decide) h3
  refine ⟨by omega,?_⟩
  rcases Nat.lt_or_ge 14491 (most (cH x.1 x.2) 60000) with h5|h5
  ·have:=jc h1 (Int.le_refl _) h2 (Int.le_refl _) (show 14492≤most (cH x.1 x.2) 60000 by omega) (kr (jb h1) 60000)
   rw [h4] at this;cases this
  ·omega
 have r1:ek (400,50)≤10000:=by
  unfold ek jd
  rcases Nat.lt_or_ge 10000 (most (cH 400 50) 60000) with h5|h5
  ·have:=jc (c1:=400) (r1:=50) (by decide) (Int.le_refl _) (by decide) (Int.le_refl _) (show 10001≤most (cH 400 50) 60000 by omega) (kr (jb (by decide)) 60000)
   rw [c1] at this;cases this
  ·dsimp only;omega
 have r2:14491≤ek (420,120):=by
  unfold ek jd
  have:=lQ (p:=cH 420 120) (n:=60000) (by decide) c2
  dsimp only;omega
 have hne:cC S0 N0 [] ≠ []:=List.ne_nil_of_mem m1
 have h0:(bT S0 N0 []).2=0:=by kernel_rfl
 obtain ⟨⟨x,hx,ex⟩,⟨y,hy,ey⟩,hall⟩:=mG ek hne
 have t:=qm ek hne
 have b1:=hb x hx
 have b2:=hb y hy
 have a1:=hall _ m1
 have a2:=hall _ m2
 unfold Bt
 rw [if_neg (by rw [h0];decide)]
 unfold Eb
 rw [t,if_neg (by decide)]
 generalize aG ek (cC S0 N0 [])=z at *
 have q1:z.1.lo=10000:=by omega
 have q2:z.1.hi=14491:=by omega
 rw [q1,q2]
theorem FA:Ec S0 N0 [rB,rN] (400,50) (20,8) where
 l:=List.elem_iff.1 (by kernel_rfl)
 h:=List.elem_iff.1 (by kernel_rfl)
 Fw u hu:=by
  have e:aW (cu false N0 [rB,rN] (400,50)) 0 [rB,rN].length=[1]:=by kernel_rfl
  have hA:((iw S0 N0).all fun u=>decide (aW (cu false N0 [rB,rN] u) 0 [rB,rN].length=[1]) || decide (aW (cu false N0 [rB,rN] u) 0 [rB,rN].length=[0,1]))=true:=by kernel_rfl
  have h:=List.all_eq_true.1 hA u hu
  rw [e]
  simp only [Bool.or_eq_true,decide_eq_true_eq] at h
  rcases h with h|h
  ·rw [h];exact Ab
  ·rw [h];intro hb
   rcases hb with hb|⟨hb,_⟩
   ·exact absurd hb (by decide)
   ·exact absurd hb (by decide)
 hmin u hu:=by
  have e:aW (cu true N0 [rB,rN] (20,8)) 0 [rB,rN].length=[]:=by kernel_rfl
  rw [e]
  intro hb
  rcases hb with hb|⟨hb,hc⟩
  ·exact absurd hb (Nat.not_lt_zero _)
  ·rw [List.length_eq_zero_iff.1 hb] at hc;exact absurd hc (by rw [qZ];decide)
theorem DY:zE N0 [rB,rN] (400,50) (20,8)=[1]:=by kernel_rfl
theorem C2:(bT S0 N0 [rB,rN]).2=0:=by kernel_rfl
end Go.Proofs.YtichbhmnhkegiaaGreat
