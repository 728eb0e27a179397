/-
  Contracts of the program's functions and of the document's. Lemmas alone; their conditions stand in them.
-/
import Derived.Test.YtalcbebjpgfnfaaGreatK4
import Derived.Test.YtalcbebjpgfnfaaGreatK17
import Derived.Test.YtalcbebjpgfnfaaGreatK21
import Derived.Test.YtalcbebjpgfnfaaGreatK22
open Go Go.RM Go.AirLaw
namespace Go.Proofs.YtalcbebjpgfnfaaGreat
set_option maxRecDepth 100000
set_option maxHeartbeats 4000000
theorem qn (v:Int × Int→Int):∀ {L:List (Int × Int)},L ≠ []→(∃ x ∈ L,v x=(bz v L).1.lo)∧(∃ x ∈ L,v x=(bz v L).1.hi)∧∀ x ∈ L,(bz v L).1.lo≤v x∧v x≤(bz v L).1.hi:=by
 intro L
 induction hn:L.length generalizing L with
 | zero=>intro h;exact absurd (List.length_eq_zero_iff.1 hn) h
 | succ n ih =>
  intro hL
  obtain ⟨l,x,rfl⟩:∃ l x,L=l++[x]:=⟨L.dropLast,L.getLast hL,(List.dropLast_concat_getLast hL).symm⟩
  cases l with
  | nil =>
   rw [List.nil_append,Jk]
   exact ⟨⟨x,by simp,rfl⟩,⟨x,by simp,rfl⟩,fun y hy=>by rw [List.mem_singleton.1 hy];exact ⟨Int.le_refl _,Int.le_refl _⟩⟩
  | cons a l =>
   have hne:a :: l ≠ []:=by simp
   obtain ⟨⟨y,hy,ey⟩,⟨z,hz,ez⟩,hall⟩:=ih (L:=a :: l) (by simp at hn;simp;omega) hne
   rw [zZ]
   unfold je
   rw [uD v hne]
   simp only [if_true]
   refine ⟨?_,?_,fun w hw=>?_⟩
   ·by_cases h:(bz v (a :: l)).1.lo≤v x
    ·exact ⟨y,List.mem_append_left _ hy,by rw [ey];omega⟩
    ·exact ⟨x,List.mem_append_right _ (by simp),by omega⟩
   ·by_cases h:v x≤(bz v (a :: l)).1.hi
    ·exact ⟨z,List.mem_append_left _ hz,by rw [ez];omega⟩
    ·exact ⟨x,List.mem_append_right _ (by simp),by omega⟩
   ·rcases List.mem_append.1 hw with hw|hw
    ·have:=hall w hw;omega
    ·rw [List.mem_singleton.1 hw];omega
theorem ox {c r:Int} {far:Int} (hc:0≤c) (hr:0≤r) (hf:0≤far∧far≤60000):dB far 0 c r=true ↔ far≤lQ c r:=by
 obtain ⟨d,rfl⟩:∃ d:Nat,far=d:=⟨far.toNat,by omega⟩
 show dQ c r d=true ↔ _
 unfold lQ
 constructor
 ·intro h
  have:=oZ (p:=dQ c r) (n:=60000) (d:=d) (by omega) h
  omega
 ·intro h
  exact lJ hc (Int.le_refl _) hr (Int.le_refl _) (show d≤most (dQ c r) 60000 by omega) (nw (lI hc) 60000)
def Br (s:aC) (n:bk) (clo olo:Int) (g:Nat):Int:=if (g:Int)=n.ei then olo else lQ (gr s g).cand.lo clo
theorem Jt {s:aC} (n:bk) (hf:s.LO) {L:List (Int × Int)} (hne:L ≠ []) (hL:∀ x ∈ L,(0≤x.1∧x.1≤5000)∧0≤x.2∧x.2≤300) {g:Nat} (hg:g < s.ax.length) {far:Int} (hfar:0≤far∧far≤60000) :
  Fv s n L far g=true ↔ far≤Br s n (bz Prod.snd L).1.lo (bz gx L).1.lo g:=by
 unfold Fv Jl Br
 rw [List.all_eq_true]
 by_cases hgn:(g:Int)=n.ei
 ·simp only [if_pos hgn]
  obtain ⟨⟨y,hy,ey⟩,_,hall⟩:=qn gx hne
  constructor
  ·intro h
   have h1:=h y hy
   have hb:=hL y hy
   rw [ox hb.1.1 hb.2.1 hfar] at h1
   rw [←ey]
   exact h1
  ·intro h x hx
   have hb:=hL x hx
   rw [ox hb.1.1 hb.2.1 hfar]
   have h2:(bz gx L).1.lo≤lQ x.1 x.2:=(hall x hx).1
   omega
 ·simp only [if_neg hgn]
  have hc:=hf.cand _ (Jn hg)
  obtain ⟨⟨y,hy,ey⟩,_,hall⟩:=qn Prod.snd hne
  constructor
  ·intro h
   have h1:=h y hy
   have hb:=hL y hy
   rw [ox (by omega) hb.2.1 hfar,ey] at h1
   exact h1
  ·intro h x hx
   have hb:=hL x hx
   have hby:=hL y hy
   rw [←ey] at h
   rw [←ox (by omega) hby.2.1 hfar] at h
   have:=(hall x hx).1
   unfold dB at h ⊢
   exact qL (by omega) (Int.le_refl _) hby.2.1 (by rw [ey];exact this) (Int.le_refl _) h
theorem rG (i9:Nat→Int) (D:Nat→Bool):∀ N,(oH i9 D N=-1∧∀ k,k < N→D k=false)∨∃ b:Nat,b < N∧oH i9 D N=b∧D b=true∧∀ k,k < N→D k=true→k=b∨i9 b < i9 k∨i9 b=i9 k∧b < k
 | 0=>.inl ⟨rfl,fun k hk=>absurd hk (Nat.not_lt_zero _)⟩
 | N+1=>by
  have e:oH i9 D (N+1)=if D N=true∧(oH i9 D N < 0∨i9 N < i9 (oH i9 D N).toNat) then ((N:Nat):Int) else oH i9 D N:=rfl
  rw [e]
  rcases rG i9 D N with ⟨h1,h2⟩|⟨b,h0,h1,h2,h3⟩
  ·rw [h1]
   by_cases hD:D N=true
   ·rw [if_pos ⟨hD,.inl (by decide)⟩]
    refine .inr ⟨N,by omega,rfl,hD,fun k hk hk2=>?_⟩
    by_cases hkN:k=N
    ·exact .inl hkN
    ·rw [h2 k (by omega)] at hk2;cases hk2
   ·rw [if_neg (fun h=>hD h.1)]
    refine .inl ⟨rfl,fun k hk=>?_⟩
    by_cases hkN:k=N
    ·rw [hkN];simpa using hD
    ·exact h2 k (by omega)
  ·rw [h1,Int.toNat_natCast]
   by_cases hc:D N=true∧(((b:Nat):Int) < 0∨i9 N < i9 b)
   ·rw [if_pos hc]
    have ho:i9 N < i9 b:=by rcases hc.2 with h|h;omega;exact h
    refine .inr ⟨N,by omega,rfl,hc.1,fun k hk hk2=>?_⟩
    by_cases hkN:k=N
    ·exact .inl hkN
    ·rcases h3 k (by omega) hk2 with h|h|h
     ·rw [h];exact .inr (.inl ho)
     ·exact .inr (.inl (by omega))
     ·exact .inr (.inl (by omega))
   ·rw [if_neg hc]
    refine .inr ⟨b,by omega,rfl,h2,fun k hk hk2=>?_⟩
    by_cases hkN:k=N
    ·rw [hkN] at hk2 ⊢
     have:¬ i9 N < i9 b:=fun h=>hc ⟨hk2,.inr h⟩
     omega
    ·exact h3 k (by omega) hk2
def Dg (s:aC) (a b:Int):Int:=fj (ki s a.toNat) (ki s b.toNat)
theorem KO (s:aC):Fw (Dg s):=by
 constructor
 ·intro a b h
  unfold Dg fj at *
  generalize ki s a.toNat=x at *
  generalize ki s b.toNat=y at *
  repeat' split at h
  all_goals repeat' split
  all_goals omega
 ·intro a b d h k
  unfold Rb Dg fj at *
  generalize ki s a.toNat=x at *
  generalize ki s b.toNat=y at *
  generalize ki s d.toNat=z at *
  repeat' split at h
  all_goals repeat' split at k
  all_goals repeat' split
  all_goals omega
theorem xY {i9:Nat→Int} {s:aC} (ho:i9=ki s) {D:Nat→Bool} {N:Nat} {S:List Int} (hs:pQ (Dg s) S N) (hSl:S.length=N) (hmem:∀ b:Nat,b < N→(b:Int) ∈ S) {k a:Nat} (ha:a < N) (ea:S.getD k 0=a) (hD:D a=true) (hprev:∀ p,p < k→∀ b:Nat,S.getD p 0=b→D b=false):oH i9 D N=(a:Int):=by
 rcases rG i9 D N with ⟨h1,h2⟩|⟨b,h0,h1,h2,h3⟩
 ·rw [h2 a ha] at hD;cases hD
 ·rw [h1]
  obtain ⟨q,hq,eq⟩:=List.getElem_of_mem (hmem b h0)
  have eq':S.getD q 0=b:=by rw [List.getD_eq_getElem?_getD,List.getElem?_eq_getElem hq,←eq];rfl
  rcases Nat.lt_trichotomy q k with hqk|hqk|hqk
  ·rw [hprev q hqk b eq'] at h2;cases h2
  ·rw [hqk,ea] at eq';exact eq'.symm
  ·have hr:=hs k q hqk (by omega)
   rw [ea,eq'] at hr
   unfold Rb Dg fj at hr
   rw [Int.toNat_natCast,Int.toNat_natCast,←ho] at hr
   rcases h3 a ha hD with h|h|h
   ·rw [h]
   ·repeat' split at hr
    all_goals omega
   ·repeat' split at hr
    all_goals omega
end Go.Proofs.YtalcbebjpgfnfaaGreat
open Go Go.RM Go.AirLaw
namespace Go.Proofs.YtalcbebjpgfnfaaGreat
set_option maxRecDepth 100000
set_option maxHeartbeats 4000000
theorem Fx (one:Bool) (s:aC) (h:s.Ok) (n:bk) (rs:List aP) (f:Bool) (hr:rs.length≤maxLen) (far:Int) :
  Pu one 33 [.ag (bf s),.ag (jW n),.sl (rs.map aL) f,ah far] (.tp [ah (xW s n rs far).1,ah (xW s n rs far).2]):=by
 have hen:=qf one s h n rs f hr
 have o1:=kA one 0 60000 far
 unfold xW
 by_cases e0:(cV s n rs).2=0
 ·rw [if_neg (by omega)]
  have ho:=kO e0
  rw [e0] at hen
  have d0:(!decide ((0:Int)=0))=false:=by decide
  cases e1:aM 0 60000 [far] with
  | true =>
   rw [e1] at o1
   rw [if_pos rfl]
   refine af.body (fn:=Tryz.f33) rfl rfl rfl rfl ?_
   refine aa (mu:=fun _=>false) ?_
   repeat' (first |refine u1 ?_ |fail)
   exact ⟨[_,_],⟨Fz.deep rfl,Fz.deep rfl,trivial⟩,rfl⟩
  | false =>
   rw [e1] at o1
   rw [if_neg (by simp)]
   have hfar:=(bH.1 e1) far (by simp)
   have c1:=nE true f ho
   have c2:=ho.cl true f
   have hgen:=ho.gl one f
   have e2:=qi one 79 [] [] rfl _ _ _ Prod.snd _ hgen (fun x hx=>L5 one x.1 x.2)
   have e3:=qi one 78 [] [] rfl _ _ _ gx _ hgen (fun x hx=>A7 one x.1 x.2 (kP ho hx).1 (kP ho hx).2)
   have hmem:∀ x ∈ dO s n rs,(0≤x.1∧x.1≤5000)∧0≤x.2∧x.2≤300:=fun x hx=>kP ho hx
   have hdi:=fun hne {g:Nat} (hg:g < s.ax.length)=>Jt (L:=dO s n rs) n ho.qv hne hmem hg hfar
   have hcl:dO s n rs ≠ []→0≤(bz Prod.snd (dO s n rs)).1.lo∧(bz Prod.snd (dO s n rs)).1.lo≤300:=fun hne=>by
    obtain ⟨⟨y,hy,ey⟩,_⟩:=qn Prod.snd hne
    have:=hmem y hy
    omega
   have htr:(bz Prod.snd (dO s n rs)).2=true ↔ dO s n rs ≠ []:=⟨fun h hn=>(by rw [hn] at h;cases h),fun h=>uD _ h⟩
   rw [Jh]
   unfold Jo
   by_cases hL:dO s n rs=[]
   ·rw [if_pos hL]
    rw [hL] at e2
    refine af.body (fn:=Tryz.f33) rfl rfl rfl rfl ?_
    refine aa (mu:=fun _=>false) ?_
    repeat' (first |refine u1 ?_ |refine u2 ?_ |fail)
    exact ⟨[_,_],⟨Fz.deep rfl,Fz.deep rfl,trivial⟩,rfl⟩
   ·rw [if_neg hL]
    have hdi2:=fun {g:Nat} (hg:g < s.ax.length)=>hdi hL hg
    have hcl2:=hcl hL
    have htt:=htr.2 hL
    clear hdi hcl
    generalize Fv s n (dO s n rs) far=D at *
    generalize bz Prod.snd (dO s n rs)=ZZ at *
    generalize bz gx (dO s n rs)=OO at *
    obtain ⟨Z,zt⟩:=ZZ
    obtain ⟨O,ot⟩:=OO
    dsimp only at htt hdi2 hcl2 e2 e3
    subst htt
    have h4:=ho.qv.len
    obtain ⟨N,hN⟩:∃ N,s.ax.length=N:=⟨_,rfl⟩
    have eg:((s.ax.map bh).length:Int)=N:=by simp [hN]
    rw [hN] at h4 ⊢
    clear hgen c1 htr hmem
    have c1:=nE true f ho
    have hcm:∀ (o:Bool) (a b:Nat),a < N→b < N→af TT TB o (.fn 83 [] [.pt (bf s) 0]) [ah a,ah b] (ah (Dg s a b)):=fun o a b ha hb=>by
     have:=Ml o s a b (by omega) (by omega)
     unfold Dg
     rw [Int.toNat_natCast,Int.toNat_natCast]
     exact this
    have hnum:Pu one 81 [.ag (ck ⟨0,((s.ax.map bh).length:Int) - 1⟩)] (D6 ⟨0,(N:Int) - 1⟩):=by rw [eg];exact nB one _
    have hLl:(eJ ⟨0,(N:Int) - 1⟩).length=N:=by rw [cW];unfold av;dsimp only;omega
    have hLq:∀ q,q < N→(eJ ⟨0,(N:Int) - 1⟩).getD q 0=q:=fun q hq=>by
     rw [List.getD_eq_getElem?_getD,Fa (by unfold av;dsimp only;omega)]
     show (0:Int)+q=q
     omega
    refine af.body (fn:=Tryz.f33) rfl rfl rfl rfl ?_
    refine aa (mu:=fun _=>false) ?_
    repeat' (first |refine GX one _ _ _ rfl rfl rfl N h4 ?_ |refine Bq one (Dg s) (KO s) 83 [] [.pt (bf s) 0] rfl rfl rfl rfl rfl rfl N h4.2 hcm _ hLl hLq (fun S hso hpe=>?_) |refine u1 ?_ |refine u2 ?_ |fail)
    have hSl:S.length=N:=by rw [hpe.length_eq,hLl]
    have hin:∀ b:Nat,b < N→(b:Int) ∈ S:=fun b hb=>hpe.mem_iff.2 (tq.2 (by dsimp only;omega))
    have hof:∀ q,q < N→∃ a:Nat,a < N∧S.getD q 0=a:=fun q hq=>by
     have h1:S.getD q 0 ∈ S:=by
      rw [List.getD_eq_getElem?_getD,List.getElem?_eq_getElem (by omega)]
      exact List.getElem_mem _
     have h2:=tq.1 (hpe.mem_iff.1 h1)
     dsimp only at h2
     exact ⟨(S.getD q 0).toNat,by omega,by omega⟩
    obtain ⟨v,hv⟩:∃ v,v=N - 1:=⟨_,rfl⟩
    obtain ⟨c,hc⟩:∃ c,c=N+1:=⟨_,rfl⟩
    rw [←hv,←hc]
    refine az.aK (ai.to (l:=[(3,ah far),(4,.pt (bf s) 0),(5,.pt (jW n) 0),(13,.ptr 1 0 0),(15,.ptr 2 0 0),(62,.bX 4 v 0 N c),(63,ah (N:Nat)),(64,ah (0:Nat))]) (hp:=[.cells (cx s n rs f) 0 0,.cells (ck Z) 0 0,.cells (ck O) 0 0,.cells [.bX 4 v 0 N c] 0 0,iD S v]) 5 rfl ⟨rfl,rfl,rfl,rfl,rfl,rfl,rfl,rfl,trivial⟩ (Nat.zero_le _) rfl (mX rfl rfl rfl rfl _ _)) ?_
    refine az.loop (fun k:Nat=>k≤N∧∀ p,p < k→∀ b:Nat,S.getD p 0=b→D b=false) (fun k=>⟨aX [(3,ah far),(4,.pt (bf s) 0),(5,.pt (jW n) 0),(13,.ptr 1 0 0),(15,.ptr 2 0 0),(62,.bX 4 v 0 N c),(63,ah (N:Nat)),(64,ah (k:Nat))],[.cells (cx s n rs f) 0 0,.cells (ck Z) 0 0,.cells (ck O) 0 0,.cells [.bX 4 v 0 N c] 0 0,iD S v],bN.none,false,0⟩) (fun k=>N - k) ?_ 0 ⟨Nat.zero_le _,fun p hp=>absurd hp (Nat.not_lt_zero _)⟩
    rintro k ⟨hk,hprev⟩
    refine aa (mu:=fun _=>false) ?_
    by_cases hlt:k < N
    ·have d1:decide ((k:Int) < (N:Int))=true:=decide_eq_true (by omega)
     obtain ⟨a,ha,ea⟩:=hof k hlt
     have hgk:=tw (S:=S) (q:=k) (by omega)
     rw [ea] at hgk
     have hat:=Jm (s:=s) (g:=a) (by omega)
     have hda:=hdi2 (g:=a) (by omega)
     have hcd:=ho.qv.cand _ (Jn (s:=s) (g:=a) (by omega))
     have hrc:=A7 true (gr s (a:Nat)).cand.lo Z.lo (by omega) hcl2
     unfold Br at hda
     by_cases hga:(a:Int)=n.ei
     ·have d2:(!decide ((a:Int)=n.ei))=false:=by rw [decide_eq_true hga];rfl
      rw [if_pos hga] at hda
      by_cases hfo:far≤O.lo
      ·have d3:=decide_eq_true hfo
       have hb:=xY (N:=N) (D:=D) rfl hso hSl hin ha ea (hda.2 hfo) hprev
       rw [hb,if_neg (by omega)]
       repeat' (first |((with_reducible show RM.wpOp _ _ (.load _ _) _ _ _);refine RM.F7 rfl rfl rfl hgk ?_) |refine u1 ?_ |fail)
       exact ⟨[_,_],⟨Fz.deep rfl,Fz.deep rfl,trivial⟩,rfl⟩
      ·have d3:=decide_eq_false hfo
       repeat' (first |((with_reducible show RM.wpOp _ _ (.load _ _) _ _ _);refine RM.F7 rfl rfl rfl hgk ?_) |refine u1 ?_ |fail)
       refine ⟨k+1,⟨hlt,fun p hp b hb=>?_⟩,(by dsimp only;omega),ai.to 5 rfl ⟨rfl,rfl,rfl,rfl,rfl,rfl,rfl,aH (by simp),trivial⟩ (Nat.zero_le _) rfl (mX rfl rfl rfl rfl _ _)⟩
       by_cases hpk:p=k
       ·rw [hpk,ea] at hb
        rw [←Int.ofNat.inj hb]
        cases hD:D a with
        | false=>rfl
        | true=>exact absurd (hda.1 hD) hfo
       ·exact hprev p (by omega) b hb
     ·have d2:(!decide ((a:Int)=n.ei))=true:=by rw [decide_eq_false hga];rfl
      rw [if_neg hga] at hda
      generalize lQ (gr s (a:Nat)).cand.lo Z.lo=R at *
      by_cases hfo:far≤R
      ·have d3:=decide_eq_true hfo
       have hb:=xY (N:=N) (D:=D) rfl hso hSl hin ha ea (hda.2 hfo) hprev
       rw [hb,if_neg (by omega)]
       repeat' (first |((with_reducible show RM.wpOp _ _ (.load _ _) _ _ _);refine RM.F7 rfl rfl rfl hgk ?_) |refine u1 ?_ |refine u2 ?_ |fail)
       exact ⟨[_,_],⟨Fz.deep rfl,Fz.deep rfl,trivial⟩,rfl⟩
      ·have d3:=decide_eq_false hfo
       repeat' (first |((with_reducible show RM.wpOp _ _ (.load _ _) _ _ _);refine RM.F7 rfl rfl rfl hgk ?_) |refine u1 ?_ |refine u2 ?_ |fail)
       refine ⟨k+1,⟨hlt,fun p hp b hb=>?_⟩,(by dsimp only;omega),ai.to 5 rfl ⟨rfl,rfl,rfl,rfl,rfl,rfl,rfl,aH (by simp),trivial⟩ (Nat.zero_le _) rfl (mX rfl rfl rfl rfl _ _)⟩
       by_cases hpk:p=k
       ·rw [hpk,ea] at hb
        rw [←Int.ofNat.inj hb]
        cases hD:D a with
        | false=>rfl
        | true=>exact absurd (hda.1 hD) hfo
       ·exact hprev p (by omega) b hb
    ·have d1:decide ((k:Int) < (N:Int))=false:=decide_eq_false (by omega)
     have hb:oH (ki s) D N < 0:=by
      rcases rG (ki s) D N with ⟨h1,_⟩|⟨b,h0,_,h2,_⟩
      ·rw [h1];decide
      ·obtain ⟨q,hq,eq⟩:=List.getElem_of_mem (hin b h0)
       have eq':S.getD q 0=b:=by rw [List.getD_eq_getElem?_getD,List.getElem?_eq_getElem hq,←eq];rfl
       rw [hprev q (by omega) b eq'] at h2
       cases h2
     rw [if_pos hb]
     repeat' (first |refine u1 ?_ |fail)
     exact ⟨[_,_],⟨Fz.deep rfl,Fz.deep rfl,trivial⟩,rfl⟩
 ·rw [if_pos (by omega)]
  generalize cV s n rs=z at *
  have d0:(!decide (z.2=0))=true:=by rw [decide_eq_false e0];rfl
  refine af.body (fn:=Tryz.f33) rfl rfl rfl rfl ?_
  refine aa (mu:=fun _=>false) ?_
  repeat' (first |refine u1 ?_ |fail)
  exact ⟨[_,_],⟨Fz.deep rfl,Fz.deep rfl,trivial⟩,rfl⟩
end Go.Proofs.YtalcbebjpgfnfaaGreat
open Go Go.RM Go.AirLaw
namespace Go.Proofs.YtalcbebjpgfnfaaGreat
set_option maxRecDepth 100000
set_option maxHeartbeats 4000000
theorem Ju (one:Bool) (a b:List Int) (f g:Bool) (_:a.length≤maxLen) (hb:b.length≤maxLen):Pu one 37 [.sl (a.map eI) f,.sl (b.map eI) g] (BB (decide (a=b))):=by
 unfold maxLen at hb
 have ea:((a.map eI).length:Int)=a.length:=by simp
 have eb:((b.map eI).length:Int)=b.length:=by simp
 refine af.body (fn:=Tryz.f37) rfl rfl rfl rfl ?_
 refine aa (mu:=fun _=>false) ?_
 repeat' (first |refine u1 ?_ |fail)
 refine ⟨fun h=>?_,fun h=>?_⟩
 ·repeat' (first |refine u1 ?_ |fail)
  refine ⟨[_],⟨Fz.deep rfl,trivial⟩,Bt ?_⟩
  rw [ea,eb] at h
  symm
  rw [decide_eq_false_iff_not]
  rintro rfl
  simp at h
 ·have hl:a.length=b.length:=Int.ofNat_inj.1 (by rw [ea,eb] at h;simpa using h)
  repeat' (first |refine u1 ?_ |fail)
  refine az.aK (ai.to (l:=[(0,.sl (a.map eI) f),(1,.sl (b.map eI) g),(5,ah ((0:Nat):Int))]) 0 rfl ⟨rfl,rfl,rfl,trivial⟩ (Nat.le_refl _) rfl rfl) ?_
  refine az.loop (fun k:Nat=>k≤a.length∧∀ i (h:i < a.length),i < k→a[i]=b[i]) (fun k=>⟨aX [(0,.sl (a.map eI) f),(1,.sl (b.map eI) g),(5,ah (k:Int))],[],bN.none,false,0⟩) (fun k=>a.length - k) ?_ 0 ⟨Nat.zero_le _,fun i _ hi=>absurd hi (by omega)⟩
  intro k ⟨hk,hprev⟩
  refine aa (mu:=fun _=>false) ?_
  repeat' (first |refine u1 ?_ |fail)
  refine ⟨fun h=>?_,fun h=>?_⟩
  ·have hlt:k < a.length:=by simpa only [ea,decide_eq_true_eq,Int.ofNat_lt] using h
   have hltb:k < b.length:=by omega
   repeat' (first |refine u1 ?_ |((with_reducible show RM.wpOp _ _ (.indexAddr _ _ _) _ _ _);first|refine ⟨eI a[k],⟨by omega,cq hlt⟩,rfl,?_⟩|refine ⟨eI b[k],⟨by omega,cq hltb⟩,rfl,?_⟩) |refine u2 ?_ |((with_reducible show mT _ _ _ _ (.cond _ _ _) _ _);refine RM.e1 rfl ⟨fun h=>?_,fun h=>?_⟩) |fail)
   ·refine ⟨[_],⟨Fz.deep rfl,trivial⟩,Bt ?_⟩
    symm
    rw [decide_eq_false_iff_not]
    rintro rfl
    simp_all
   ·refine ⟨k+1,⟨hlt,fun i hi hik=>?_⟩,(by dsimp only;omega),ai.to 0 rfl ⟨rfl,rfl,aH (by simp),trivial⟩ (Nat.le_refl _) rfl rfl⟩
    by_cases hik':i=k
    ·subst hik';simp_all
    ·exact hprev i hi (by omega)
  ·repeat' (first |refine u1 ?_ |fail)
   refine ⟨[_],⟨Fz.deep rfl,trivial⟩,Bt ?_⟩
   have hkl:k=a.length:=by rw [ea,decide_eq_false_iff_not] at h;omega
   symm
   rw [decide_eq_true_eq]
   exact List.ext_getElem hl fun i h1 _=>hprev i h1 (by omega)
theorem KP (one:Bool) (x y:Int):Pu one 24 [ah x,ah y] (.ag [ah x,ah y]):=by
 refine af.body (fn:=Tryz.f24) rfl rfl rfl rfl ?_
 refine aa (mu:=fun _=>false) ?_
 repeat' (first |refine u1 ?_ |refine u2 ?_ |fail)
 exact ⟨[_],⟨Fz.deep rfl,trivial⟩,rfl⟩
theorem rI (one:Bool) (x y:Int):Pu one 36 [ah x,ah y] (.ag [ah x,ah y]):=by
 refine af.body (fn:=Tryz.f36) rfl rfl rfl rfl ?_
 refine aa (mu:=fun _=>false) ?_
 repeat' (first |refine u1 ?_ |refine u2 ?_ |fail)
 exact ⟨[_],⟨Fz.deep rfl,trivial⟩,rfl⟩
theorem tA (one:Bool) (x y:Int) (h b:Bool):Pu one 35 [ah x,ah y,BB h,BB b] (.ag (aL ⟨⟨x,y⟩,h,b⟩)):=by
 have hp:=KP one x y
 refine af.body (fn:=Tryz.f35) rfl rfl rfl rfl ?_
 refine aa (mu:=fun _=>false) ?_
 repeat' (first |refine u1 ?_ |refine u2 ?_ |fail)
 exact ⟨[_],⟨Fz.deep rfl,trivial⟩,rfl⟩
abbrev S0:aC:=⟨[⟨⟨#[115,112,101,114,109]⟩,⟨400,420⟩,60⟩,⟨⟨#[114,97,112,101]⟩,⟨100,100⟩,40⟩],⟨20,30⟩,⟨50,120⟩⟩
abbrev N0:bk:=⟨⟨0,0⟩,0,8,1⟩
abbrev rA:aP:=⟨⟨0,10000⟩,false,true⟩
abbrev rB:aP:=⟨⟨13000,0⟩,false,false⟩
abbrev rH:aP:=⟨⟨3500,0⟩,true,true⟩
abbrev rN:aP:=⟨⟨0,10000⟩,false,false⟩
theorem Mp (one:Bool):Pu one 27 [] (.ag (aL rA)):=by
 have hp:=tA one 0 10000 false true
 refine af.body (fn:=Tryz.f27) rfl rfl rfl rfl ?_
 refine aa (mu:=fun _=>false) ?_
 repeat' (first |refine u1 ?_ |refine u2 ?_ |fail)
 exact ⟨[_],⟨Fz.deep rfl,trivial⟩,rfl⟩
theorem Mq (one:Bool):Pu one 28 [] (.ag (aL rB)):=by
 have hp:=tA one 13000 0 false false
 refine af.body (fn:=Tryz.f28) rfl rfl rfl rfl ?_
 refine aa (mu:=fun _=>false) ?_
 repeat' (first |refine u1 ?_ |refine u2 ?_ |fail)
 exact ⟨[_],⟨Fz.deep rfl,trivial⟩,rfl⟩
theorem Mr (one:Bool):Pu one 30 [] (.ag (aL rH)):=by
 have hp:=tA one 3500 0 true true
 refine af.body (fn:=Tryz.f30) rfl rfl rfl rfl ?_
 refine aa (mu:=fun _=>false) ?_
 repeat' (first |refine u1 ?_ |refine u2 ?_ |fail)
 exact ⟨[_],⟨Fz.deep rfl,trivial⟩,rfl⟩
theorem Jv (one:Bool):Pu one 22 [] (.ag (jW N0)):=by
 refine af.body (fn:=Tryz.f22) rfl rfl rfl rfl ?_
 refine aa (mu:=fun _=>false) ?_
 repeat' (first |refine u1 ?_ |refine u2 ?_ |fail)
 exact ⟨[_],⟨Fz.deep rfl,trivial⟩,rfl⟩
theorem Ej (one:Bool):Pu one 21 [] (.ag (bf S0)):=by
 have h1:=rI one 400 420
 have h2:=rI one 100 100
 have h3:=rI one 20 30
 have h4:=rI one 50 120
 refine af.body (fn:=Tryz.f21) rfl rfl rfl rfl ?_
 refine aa (mu:=fun _=>false) ?_
 repeat' (first |refine u1 ?_ |refine u2 ?_ |fail)
 refine ⟨[.ag (bf S0)],⟨Fz.ag rfl (fun i x y hx hy=>?_),trivial⟩,rfl⟩
 rcases i with _|_|_|_|_|i
 ·obtain rfl:=Option.some.inj hx
  obtain rfl:=Option.some.inj hy
  exact Fz.full
 iterate 4
  ·obtain rfl:=Option.some.inj hx
   obtain rfl:=Option.some.inj hy
   exact Fz.deep rfl
 ·cases hx
theorem vb:S0.Ok:=⟨by decide,by decide⟩
end Go.Proofs.YtalcbebjpgfnfaaGreat
open Go Go.RM Go.AirLaw
namespace Go.Proofs.YtalcbebjpgfnfaaGreat
set_option maxRecDepth 100000
set_option maxHeartbeats 4000000
theorem KQ:xU S0 N0 [rA,rB]=(⟨400,420⟩,⟨50,65⟩,0):=by kernel_rfl
theorem KR:xV S0 N0 [rH]=(⟨25,30⟩,[8],0):=by kernel_rfl
theorem KT:Bp S0 N0 [rA] ⟨0,12000⟩ false=(1,0):=by kernel_rfl
theorem KU:xW S0 N0 [] 7000=(1,0):=by kernel_rfl
theorem Ms:xW S0 N0 [] 10001=(0,9):=by kernel_rfl
theorem Nc:Gh S0 1 90=(60,0):=by kernel_rfl
theorem KV:CH ⟨0,10000⟩ 200 100=(true,0):=by kernel_rfl
theorem KW:CH ⟨0,10000⟩ 199 100=(false,0):=by kernel_rfl
theorem KX:AZ ⟨-1200,0⟩ 20 8=(true,0):=by kernel_rfl
theorem Nd:GW S0 N0 []=(10000,14491,0):=by
 have hA:((dO S0 N0 []).all fun x=>decide (0≤x.1) && decide (0≤x.2) && dQ x.1 x.2 10000 && !dQ x.1 x.2 14492)=true:=by kernel_rfl
 have m1:(400,50) ∈ dO S0 N0 []:=List.elem_iff.1 (by kernel_rfl)
 have m2:(420,120) ∈ dO S0 N0 []:=List.elem_iff.1 (by kernel_rfl)
 have c1:dQ 400 50 10001=false:=by kernel_rfl
 have c2:dQ 420 120 14491=true:=by kernel_rfl
 have hb:∀ x ∈ dO S0 N0 [],10000≤gx x∧gx x≤14491:=by
  intro x hx
  have h:=List.all_eq_true.1 hA x hx
  simp only [Bool.and_eq_true,decide_eq_true_eq,Bool.not_eq_true'] at h
  obtain ⟨⟨⟨h1,h2⟩,h3⟩,h4⟩:=h
  unfold gx lQ
  have a1:=oZ (p:=dQ x.1 x.2) (n:=60000) (by decide) h3
  refine ⟨by omega,?_⟩
  rcases Nat.lt_or_ge 14491 (most (dQ x.1 x.2) 60000) with h5|h5
  ·have:=lJ h1 (Int.le_refl _) h2 (Int.le_refl _) (show 14492≤most (dQ x.1 x.2) 60000 by omega) (nw (lI h1) 60000)
   rw [h4] at this;cases this
  ·omega
 have r1:gx (400,50)≤10000:=by
  unfold gx lQ
  rcases Nat.lt_or_ge 10000 (most (dQ 400 50) 60000) with h5|h5
  ·have:=lJ (c1:=400) (r1:=50) (by decide) (Int.le_refl _) (by decide) (Int.le_refl _) (show 10001≤most (dQ 400 50) 60000 by omega) (nw (lI (by decide)) 60000)
   rw [c1] at this;cases this
  ·dsimp only;omega
 have r2:14491≤gx (420,120):=by
  unfold gx lQ
  have:=oZ (p:=dQ 420 120) (n:=60000) (by decide) c2
  dsimp only;omega
 have hne:dO S0 N0 [] ≠ []:=List.ne_nil_of_mem m1
 have h0:(cV S0 N0 []).2=0:=by kernel_rfl
 obtain ⟨⟨x,hx,ex⟩,⟨y,hy,ey⟩,hall⟩:=qn gx hne
 have t:=uD gx hne
 have b1:=hb x hx
 have b2:=hb y hy
 have a1:=hall _ m1
 have a2:=hall _ m2
 unfold GW
 rw [if_neg (by rw [h0];decide)]
 unfold Lo
 rw [t,if_neg (by decide)]
 generalize bz gx (dO S0 N0 [])=z at *
 have q1:z.1.lo=10000:=by omega
 have q2:z.1.hi=14491:=by omega
 rw [q1,q2]
theorem Nf:Lq S0 N0 [rB,rN] (400,50) (20,8) where
 l:=List.elem_iff.1 (by kernel_rfl)
 h:=List.elem_iff.1 (by kernel_rfl)
 Nb u hu:=by
  have e:bZ (dD false N0 [rB,rN] (400,50)) 0 [rB,rN].length=[1]:=by kernel_rfl
  have hA:((kG S0 N0).all fun u=>decide (bZ (dD false N0 [rB,rN] u) 0 [rB,rN].length=[1]) || decide (bZ (dD false N0 [rB,rN] u) 0 [rB,rN].length=[0,1]))=true:=by kernel_rfl
  have h:=List.all_eq_true.1 hA u hu
  rw [e]
  simp only [Bool.or_eq_true,decide_eq_true_eq] at h
  rcases h with h|h
  ·rw [h];exact vH
  ·rw [h];intro hb
   rcases hb with hb|⟨hb,_⟩
   ·exact absurd hb (by decide)
   ·exact absurd hb (by decide)
 hmin u hu:=by
  have e:bZ (dD true N0 [rB,rN] (20,8)) 0 [rB,rN].length=[]:=by kernel_rfl
  rw [e]
  intro hb
  rcases hb with hb|⟨hb,hc⟩
  ·exact absurd hb (Nat.not_lt_zero _)
  ·rw [List.length_eq_zero_iff.1 hb] at hc;exact absurd hc (by rw [od];decide)
theorem KY:Ei N0 [rB,rN] (400,50) (20,8)=[1]:=by kernel_rfl
theorem Jw:(cV S0 N0 [rB,rN]).2=0:=by kernel_rfl
end Go.Proofs.YtalcbebjpgfnfaaGreat
