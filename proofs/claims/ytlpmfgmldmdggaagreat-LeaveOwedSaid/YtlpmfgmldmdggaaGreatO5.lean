/-
  Contracts of the program's functions and of the document's. Lemmas alone; their conditions stand in them.
-/
import Derived.Test.YtlpmfgmldmdggaaGreatO4
open Go Go.RM
namespace Go.Proofs.YtlpmfgmldmdggaaGreat
set_option maxRecDepth 100000
set_option maxHeartbeats 4000000
def fs1b:Code→Code
 | .seq a _=>a
 | x=>x
theorem one_inb (W:List Int):([.cells (gh W) 0 0]:List AB).all (AB.ig 1)=true:=by
 have h1:AB.ig 1 (.cells (gh W) 0 0)=true:=Cm 1 (fun _=>rfl) _
 simp only [List.all_cons,List.all_nil,h1,Bool.and_true]
noncomputable def b31:Code:=Tryz.f31.body.getD .skip
noncomputable def t31:Code:=Ar (Ar (Ar (Ar (Ar b31))))
noncomputable def t31b:Code:=Ar t31
structure LOk (c:ay) (p:Pln) (l:List Int):Prop where
 inn:ec 0 ((c.aG.length:Int) - 1) l=false
 K6:dscB l=false
 len:(l.length:Int)≤p.away
theorem LOk.mem {c:ay} {p:Pln} {l:List Int} (h:LOk c p l):∀ x ∈ l,0≤x∧x < c.aG.length:=fun x hx=>by
 have:=List.any_eq_false.1 h.inn x hx
 simp only [Bool.or_eq_true,decide_eq_true_eq] at this
 omega
theorem LOk.err {c:ay} {p:Pln} {l:List Int} (h:LOk c p l) (b:List Int):trE c p.away b l=tr4 c b l:=by
 unfold trE tr2 tr3
 rw [if_neg (by rw [h.inn];simp),if_neg (by rw [h.K6];simp),if_neg (by have:=h.len;omega)]
structure TPre (c:ay) (p:Pln) (T:List (List Int)) (k:Nat):Prop where
 le:k≤T.length
 err:tuE c p.away (tuB T k) (T.drop k)=tuE c p.away [] T
 mem:∀ x ∈ tuB T k,0≤x∧x < c.aG.length
theorem owed_loop (one:Bool) (c:ay) (hg:Good c) (p:Pln) (hp:POk p) (T:List (List Int)) (fT:Bool) (hT:TLen T) (h8:∀ l ∈ T,l.length * 8≤140737488355328) (hTp:(T.length:Int)=p.turns) {K:Exit→aR→Prop} (hret:tuE c p.away [] T ≠ 0→∀ s:aR,s.fr 6=.fl (.slice none 0 0)→s.fr 7=ah (tuE c p.away [] T)→K .ret s) :
  aC TT TB one (fs1b t31) ⟨bM [(2,.sl (T.map eT) fT),(3,.pt (aF c) 0),(4,.pt (ePln p) 0),(6,.fl (.slice none 0 0)),(7,ah 0),(8,.pt (eRot c p (menM c 0 c.aG.length) (menM c 1 c.aG.length) (menM c 2 c.aG.length)) 0),(9,.ptr 0 0 0),(10,ah 0)],[.cells (gh (wk T 0)) 0 0],bw.none,false,0⟩ (yc (fun s=>AsP s ⟨bM [(2,.sl (T.map eT) fT),(3,.pt (aF c) 0),(4,.pt (ePln p) 0),(6,.fl (.slice none 0 0)),(7,ah 0),(8,.pt (eRot c p (menM c 0 c.aG.length) (menM c 1 c.aG.length) (menM c 2 c.aG.length)) 0),(9,.ptr 0 0 0)],[.cells (gh (wk T T.length)) 0 0],bw.none,false,0⟩ (tuE c p.away [] T=0)) K):=by
 have eL:((T.map eT).length:Int)=T.length:=by simp
 have em:((c.aG.map bp).length:Int)=c.aG.length:=by simp
 have hl':=hT.len
 simp only [maxLen] at hl'
 have hm5:=hg.aG
 refine aa (mu:=fun _=>false) ?_
 show kE _ _ _ _ (.seq (.region _ _ false) _) _ _
 repeat' (first |refine u1 ?_ |refine u2 ?_ |fail)
 refine aC.bx (aj.to (l:=[(2,.sl (T.map eT) fT),(3,.pt (aF c) 0),(4,.pt (ePln p) 0),(6,.fl (.slice none 0 0)),(7,ah 0),(8,.pt (eRot c p (menM c 0 c.aG.length) (menM c 1 c.aG.length) (menM c 2 c.aG.length)) 0),(9,.ptr 0 0 0),(10,ah (maskL (tuB T (0)):Nat)),(33,.sl (T.map eT) fT),(34,ah (T.length:Nat)),(35,ah ((0:Nat)))]) (hp:=[.cells (gh (wk T 0)) 0 0]) 1 rfl ⟨rfl,rfl,rfl,rfl,rfl,rfl,rfl,rfl,rfl,cK eL,rfl,trivial⟩ (Nat.zero_le _) rfl (one_inb _)) ?_
 refine aC.loop (fun k:Nat=>TPre c p T k) (fun k=>⟨bM [(2,.sl (T.map eT) fT),(3,.pt (aF c) 0),(4,.pt (ePln p) 0),(6,.fl (.slice none 0 0)),(7,ah 0),(8,.pt (eRot c p (menM c 0 c.aG.length) (menM c 1 c.aG.length) (menM c 2 c.aG.length)) 0),(9,.ptr 0 0 0),(10,ah (maskL (tuB T (k)):Nat)),(33,.sl (T.map eT) fT),(34,ah (T.length:Nat)),(35,ah ((k:Nat)))],[.cells (gh (wk T k)) 0 0],bw.none,false,0⟩) (fun k=>T.length - k) ?_ 0 ⟨Nat.zero_le _,rfl,fun x hx=>nomatch hx⟩
 intro k hpre
 have hk:=hpre.le
 by_cases hlt:k < T.length
 ·have dl:decide ((k:Int) < (T.length:Int))=true:=decide_eq_true (by omega)
  have hat:(T.map eT)[((k:Nat):Int).toNat]?=some (eT T[k]):=bG hlt
  have hst:=tuE_at (c:=c) (w:=p.away) hlt (tuB T k)
  rw [hpre.err] at hst
  have hnb:tuB T (k+1)=T[k]:=by show (T[k]?).getD []=_;rw [List.getElem?_eq_getElem hlt];rfl
  have hlm:=hT.each _ (List.getElem_mem hlt)
  have hl8:=h8 _ (List.getElem_mem hlt)
  have hwe:=wq_end hlt
  generalize T[k]=l at *
  have hB:=hpre.mem
  generalize hBB:tuB T k=B at *
  have el:((ints l).length:Int)=l.length:=by simp
  have o1:=outl_c one 0 ((c.aG.length:Int) - 1) l false hlm
  rw [←em] at o1
  have o4:=sorted_c one l false hlm
  have hfail:trE c p.away B l ≠ 0→tuE c p.away [] T=trE c p.away B l:=fun h=>by rw [hst,if_pos h]
  have hgo:trE c p.away B l=0→tuE c p.away l (T.drop (k+1))=tuE c p.away [] T:=fun h=>by rw [hst,if_neg (fun hh=>hh h)]
  show aC TT TB one (.seq (.region _ _ _) (.seq (.cond _ _ _) (.seq (.block _ (.seq (.region _ _ _) (.seq (.region _ _ _) (.seq (.block _ _) (.seq (.seq (.region _ _ _) _) (.seq (.block _ _) (.region _ _ _))))))) (.region _ _ _)))) _ _
  refine RM.qK (mu:=fun _=>false) ?_
  repeat' (first |refine u1 ?_ |refine u2 ?_ |fail)
  refine RM.qK (mu:=fun _=>false) ?_
  repeat' (first |refine u1 ?_ |refine u2 ?_ |fail)
  refine aC.seq (aC.block ?_)
  refine RM.qK (mu:=fun _=>false) ?_
  repeat' (first |refine u1 ?_ |(refine ⟨[.sl (ints l) false],⟨by omega,hat⟩,rfl,?_⟩) |refine u2 ?_ |fail)
  refine RM.qK (mu:=fun _=>false) ?_
  repeat' (first |refine u1 ?_ |refine u2 ?_ |fail)
  refine RM.cutAtP ⟨bM [(2,.sl (T.map eT) fT),(3,.pt (aF c) 0),(4,.pt (ePln p) 0),(6,.fl (.slice none 0 0)),(7,ah 0),(8,.pt (eRot c p (menM c 0 c.aG.length) (menM c 1 c.aG.length) (menM c 2 c.aG.length)) 0),(9,.ptr 0 0 0),(10,ah (maskL B:Nat)),(33,.sl (T.map eT) fT),(34,ah (T.length:Nat)),(35,ah (k:Nat)),(12,.sl (ints l) false),(13,ah 0)],[.cells (gh (wk T k)) 0 0],bw.none,false,0⟩ (LOk c p l) ?_ (fun hok=>?_)
  ·cases e1:ec 0 ((c.aG.length:Int) - 1) l with
   | true =>
    have hE:trE c p.away B l=4:=by unfold trE;rw [if_pos e1]
    have hne:tuE c p.away [] T=4:=by rw [hfail (by rw [hE];decide),hE]
    rw [em,e1,←em] at o1
    refine aa (mu:=fun _=>false) ?_
    repeat' (first |refine u1 ?_ |((with_reducible show ai _ _ _ _ _ _ _ _);refine af.call o1 rfl rfl ?_) |refine u2 ?_ |fail)
    exact hret (by rw [hne];decide) _ rfl (by rw [hne];rfl)
   | false =>
    have h2:trE c p.away B l=tr2 c p.away B l:=by unfold trE;rw [if_neg (by rw [e1];simp)]
    rw [em,e1,←em] at o1
    refine aa (mu:=fun _=>false) ?_
    repeat' (first |refine u1 ?_ |((with_reducible show ai _ _ _ _ _ _ _ _);refine af.call o1 rfl rfl ?_) |refine u2 ?_ |fail)
    refine clone_cv one l false hl8 (fun hl=>?_) (fun v cc _=>?_)
    ·subst hl
     have o4':Pu one 78 [.sl (ints []) false] (BB true):=o4
     have cn:=compact_nil one
     have z0:decide (((ints []).length:Int) < ((ints []).length:Int))=false:=rfl
     have z1:decide ((([]:List (List AV)).length:Int) < ((ints []).length:Int))=false:=rfl
     have z2:decide (p.away < ((ints []).length:Int))=false:=decide_eq_false (by have:=hp.away;show ¬ p.away < 0;omega)
     repeat' (first |refine u1 ?_ |((with_reducible show ai _ _ _ _ _ _ _ _);refine af.call cn rfl rfl ?_) |((with_reducible show ai _ _ _ _ _ _ _ _);refine af.call o4' rfl rfl ?_) |refine u2 ?_ |fail)
     exact .is (aj.to (l:=[(2,.sl (T.map eT) fT),(3,.pt (aF c) 0),(4,.pt (ePln p) 0),(6,.fl (.slice none 0 0)),(7,ah 0),(8,.pt (eRot c p (menM c 0 c.aG.length) (menM c 1 c.aG.length) (menM c 2 c.aG.length)) 0),(9,.ptr 0 0 0),(10,ah (maskL B:Nat)),(33,.sl (T.map eT) fT),(34,ah (T.length:Nat)),(35,ah (k:Nat)),(12,.sl (ints []) false),(13,ah 0)]) (hp:=[.cells (gh (wk T k)) 0 0]) 1 rfl ⟨rfl,rfl,rfl,rfl,rfl,rfl,rfl,rfl,rfl,rfl,rfl,rfl,rfl,trivial⟩ (Nat.zero_le _) rfl (one_inb _)) ⟨e1,rfl,by have:=hp.away;show (0:Int)≤p.away;omega⟩
    ·repeat' (first |refine u1 ?_ |refine u2 ?_ |fail)
     refine compact_cv one l (wk T k) hl8 (fun hno=>?_) (fun hyes n' c' X hn=>?_)
     ·have z1:decide ((l.length:Int) < ((ints l).length:Int))=false:=decide_eq_false (by omega)
      cases e2:dsc2 l with
      | true =>
       rw [e2] at o4
       have hE:trE c p.away B l=2:=by rw [h2];unfold tr2;rw [if_pos (by rw [dsc_eq hno];exact e2)]
       have hne:tuE c p.away [] T=2:=by rw [hfail (by rw [hE];decide),hE]
       repeat' (first |refine u1 ?_ |((with_reducible show ai _ _ _ _ _ _ _ _);refine af.call o4 rfl rfl ?_) |refine u2 ?_ |fail)
       exact hret (by rw [hne];decide) _ rfl (by rw [hne];rfl)
      | false =>
       rw [e2] at o4
       have e3:dscB l=false:=by rw [dsc_eq hno];exact e2
       have h3:trE c p.away B l=tr3 c p.away B l:=by rw [h2];unfold tr2;rw [if_neg (by rw [e3];simp)]
       cases e4:decide (p.away < ((ints l).length:Int)) with
       | true =>
        have hE:trE c p.away B l=3:=by rw [h3];unfold tr3;rw [if_pos (by have:=of_decide_eq_true e4;omega)]
        have hne:tuE c p.away [] T=3:=by rw [hfail (by rw [hE];decide),hE]
        repeat' (first |refine u1 ?_ |((with_reducible show ai _ _ _ _ _ _ _ _);refine af.call o4 rfl rfl ?_) |refine u2 ?_ |fail)
        exact hret (by rw [hne];decide) _ rfl (by rw [hne];rfl)
       | false =>
        repeat' (first |refine u1 ?_ |((with_reducible show ai _ _ _ _ _ _ _ _);refine af.call o4 rfl rfl ?_) |refine u2 ?_ |fail)
        exact .is (aj.to (l:=[(2,.sl (T.map eT) fT),(3,.pt (aF c) 0),(4,.pt (ePln p) 0),(6,.fl (.slice none 0 0)),(7,ah 0),(8,.pt (eRot c p (menM c 0 c.aG.length) (menM c 1 c.aG.length) (menM c 2 c.aG.length)) 0),(9,.ptr 0 0 0),(10,ah (maskL B:Nat)),(33,.sl (T.map eT) fT),(34,ah (T.length:Nat)),(35,ah (k:Nat)),(12,.sl (ints l) false),(13,ah 0)]) (hp:=[.cells (gh (wk T k)) 0 0]) 1 rfl ⟨rfl,rfl,rfl,rfl,rfl,rfl,rfl,rfl,rfl,rfl,rfl,rfl,rfl,trivial⟩ (Nat.zero_le _) rfl (one_inb _)) ⟨e1,e3,by have:=of_decide_eq_false e4;omega⟩
     ·have z1:decide ((n':Int) < ((ints l).length:Int))=true:=decide_eq_true (by omega)
      have hE:trE c p.away B l=2:=by rw [h2];unfold tr2;rw [if_pos (dsc_no hyes)]
      have hne:tuE c p.away [] T=2:=by rw [hfail (by rw [hE];decide),hE]
      repeat' (first |refine u1 ?_ |((with_reducible show ai _ _ _ _ _ _ _ _);refine af.call o4 rfl rfl ?_) |refine u2 ?_ |fail)
      exact hret (by rw [hne];decide) _ rfl (by rw [hne];rfl)
  ·have hmem:=hok.mem
   have hB5:∀ x ∈ B,0≤x∧x < 5:=fun x hx=>by have:=hB x hx;omega
   have hl5:∀ x ∈ l,0≤x∧x < 5:=fun x hx=>by have:=hmem x hx;omega
   have bB:maskL B < 32:=maskL_lt fun x hx=>(hB5 x hx).2
   have bl:maskL l < 32:=maskL_lt fun x hx=>(hl5 x hx).2
   refine aC.seq ?_
   refine aa (mu:=fun _=>false) ?_
   show kE _ _ _ _ (.seq (.region _ _ false) _) _ _
   repeat' (first |refine u1 ?_ |refine u2 ?_ |fail)
   refine aC.bx (aj.to (l:=[(2,.sl (T.map eT) fT),(3,.pt (aF c) 0),(4,.pt (ePln p) 0),(6,.fl (.slice none 0 0)),(7,ah 0),(8,.pt (eRot c p (menM c 0 c.aG.length) (menM c 1 c.aG.length) (menM c 2 c.aG.length)) 0),(9,.ptr 0 0 0),(10,ah (maskL B:Nat)),(33,.sl (T.map eT) fT),(34,ah (T.length:Nat)),(35,ah (k:Nat)),(12,.sl (ints l) false),(13,ah (maskL (l.take (0)):Nat)),(65,.sl (ints l) false),(66,ah (l.length:Nat)),(67,ah ((0:Nat)))]) (hp:=[.cells (gh (wq T k l 0)) 0 0]) 1 (by show _=[AB.cells (gh (wq T k l 0)) 0 0];rw [wq_zero];rfl) ⟨rfl,rfl,rfl,rfl,rfl,rfl,rfl,rfl,rfl,rfl,rfl,rfl,rfl,rfl,cK el,rfl,trivial⟩ (Nat.zero_le _) rfl (one_inb _)) ?_
   refine aC.loop (fun q:Nat=>q≤l.length) (fun q=>⟨bM [(2,.sl (T.map eT) fT),(3,.pt (aF c) 0),(4,.pt (ePln p) 0),(6,.fl (.slice none 0 0)),(7,ah 0),(8,.pt (eRot c p (menM c 0 c.aG.length) (menM c 1 c.aG.length) (menM c 2 c.aG.length)) 0),(9,.ptr 0 0 0),(10,ah (maskL B:Nat)),(33,.sl (T.map eT) fT),(34,ah (T.length:Nat)),(35,ah (k:Nat)),(12,.sl (ints l) false),(13,ah (maskL (l.take (q)):Nat)),(65,.sl (ints l) false),(66,ah (l.length:Nat)),(67,ah ((q:Nat)))],[.cells (gh (wq T k l q)) 0 0],bw.none,false,0⟩) (fun q=>l.length - q) ?_ 0 (Nat.zero_le _)
   intro q hq
   by_cases hql:q < l.length
   ·have d2:decide ((q:Int) < (l.length:Int))=true:=decide_eq_true (by omega)
    have hz:=hl5 _ (List.mem_of_getElem? (inA_el hql))
    have hat2:=inA_at hql
    have hmt:=maskL_take hql
    have bq:maskL (l.take q) < 32:=maskL_lt fun x hx=>(hl5 x (List.mem_of_mem_take hx)).2
    have hnew:=asc_new hok.K6 hql
    obtain ⟨m,hm⟩:∃ m:Nat,inA l q=(m:Int):=⟨(inA l q).toNat,(Int.toNat_of_nonneg hz.1).symm⟩
    have hset:=wq_set (T:=T) (k:=k) hok.K6 hql hm
    have hm5':m < 5:=by omega
    have g1:=Hl (wq_at (T:=T) (k:=k) (l:=l) (q:=q) hm5')
    rw [hm] at hnew hat2 hmt
    rw [hnew,if_neg (by simp),Int.add_zero] at g1
    rw [Int.toNat_natCast] at hmt
    have bc:=cnT_le T m k
    have hsp:=Cn (S:=wq T k l q) (k:=m) (by rw [wq_len];exact hm5') ((cnT T m k:Int)+1)
    rw [hset] at hsp
    have hln:Nat.ble (0+((m:Nat):Int).toNat * 1+1) (gh (wq T k l q)).length=true:=Nat.ble_eq_true_of_le (by rw [List.length_map,wq_len];omega)
    have bk:2 ^ m < 32:=by
     have:(2:Nat) ^ m≤2 ^ 4:=Nat.pow_le_pow_right (by decide) (by omega)
     omega
    generalize hX:maskL (l.take q)=x0 at *
    generalize hC:cnT T m k=y0 at *
    have hm8:m < 8:=by omega
    refine aa (mu:=fun _=>false) ?_
    repeat' (first |((with_reducible show iQ _ _ _ _ _ _ _ _ _);refine RM.bshl64 (j:=m) rfl rfl hm8 ?_) |((with_reducible show iQ _ _ _ _ _ _ _ _ _);refine RM.bori (m:=x0) (n:=2 ^ m) rfl rfl (by omega) (by omega) ?_) |((with_reducible show RM.wpOp _ _ (.load _ _) _ _ _);refine RM.Km rfl rfl rfl g1 ?_) |((with_reducible show dN _ _ _ _ _ _);refine RM.uT rfl rfl rfl rfl rfl rfl hln ?_) |refine u1 ?_ |(refine ⟨[ah (m:Nat)],⟨by omega,hat2⟩,rfl,?_⟩) |refine u2 ?_ |fail)
    exact ⟨q+1,hql,(by dsimp only;omega),aj.to (l:=[(2,.sl (T.map eT) fT),(3,.pt (aF c) 0),(4,.pt (ePln p) 0),(6,.fl (.slice none 0 0)),(7,ah 0),(8,.pt (eRot c p (menM c 0 c.aG.length) (menM c 1 c.aG.length) (menM c 2 c.aG.length)) 0),(9,.ptr 0 0 0),(10,ah (maskL B:Nat)),(33,.sl (T.map eT) fT),(34,ah (T.length:Nat)),(35,ah (k:Nat)),(12,.sl (ints l) false),(13,ah (maskL (l.take ((q+1))):Nat)),(65,.sl (ints l) false),(66,ah (l.length:Nat)),(67,ah (((q+1):Nat)))]) (hp:=[.cells (gh (wq T k l (q+1))) 0 0]) 1 (by show _=[AB.cells (gh (wq T k l (q+1))) 0 0];rw [←hsp];rfl) ⟨rfl,rfl,rfl,rfl,rfl,rfl,rfl,rfl,rfl,rfl,rfl,rfl,cK (by rw [hmt]),rfl,rfl,cK (by simp),trivial⟩ (Nat.zero_le _) rfl (one_inb _)⟩
   ·have d2:decide ((q:Int) < (l.length:Int))=false:=decide_eq_false (by omega)
    have hqn:q=l.length:=by omega
    subst hqn
    have t1:=two_bits (fun x hx=>(hB5 x hx).1) (fun x hx=>(hl5 x hx).1)
    have t2:=spr_gone hg hl5
    have o5:=spared_c one c p _ _ _ (maskL l) (menM_32 (c:=c) 0 hm5.2) (menM_32 (c:=c) 1 hm5.2) (menM_32 (c:=c) 2 hm5.2) bl
    rw [t2] at o5
    have h4:=hok.err B
    refine aa (mu:=fun _=>false) ?_
    repeat' (first |refine u1 ?_ |refine u2 ?_ |fail)
    refine aC.bx (aj.to (l:=[(2,.sl (T.map eT) fT),(3,.pt (aF c) 0),(4,.pt (ePln p) 0),(6,.fl (.slice none 0 0)),(7,ah 0),(8,.pt (eRot c p (menM c 0 c.aG.length) (menM c 1 c.aG.length) (menM c 2 c.aG.length)) 0),(9,.ptr 0 0 0),(10,ah (maskL B:Nat)),(33,.sl (T.map eT) fT),(34,ah (T.length:Nat)),(35,ah (k:Nat)),(13,ah (maskL l:Nat))]) (hp:=[.cells (gh (wk T (k+1))) 0 0]) 1 (by show _=[AB.cells (gh (wk T (k+1))) 0 0];rw [←hwe];rfl) ⟨rfl,rfl,rfl,rfl,rfl,rfl,rfl,rfl,rfl,rfl,rfl,cK (by rw [List.take_length]),trivial⟩ (Nat.zero_le _) rfl (one_inb _)) ?_
    generalize hML:maskL l=ml at *
    generalize hMB:maskL B=mb at *
    cases e6:l.any fun x=>hsV B x with
    | true =>
     rw [e6] at t1
     have hE:trE c p.away B l=5:=by rw [h4];unfold tr4;rw [if_pos e6]
     have hne:tuE c p.away [] T=5:=by rw [hfail (by rw [hE];decide),hE]
     refine aa (mu:=fun _=>false) ?_
     repeat' (first |refine u1 ?_ |((with_reducible show iQ _ _ _ _ _ _ _ _ _);refine RM.bandi (m:=ml) (n:=mb) rfl rfl (by omega) (by omega) ?_) |refine u2 ?_ |fail)
     exact hret (by rw [hne];decide) _ rfl (by rw [hne];rfl)
    | false =>
     rw [e6] at t1
     have h5:trE c p.away B l=tr5 c l:=by rw [h4];unfold tr4;rw [if_neg (by rw [e6];simp)]
     cases e7:anyGone c l with
     | true =>
      rw [e7] at o5
      have hE:trE c p.away B l=8:=by rw [h5];unfold tr5;rw [if_pos e7]
      have hne:tuE c p.away [] T=8:=by rw [hfail (by rw [hE];decide),hE]
      refine aa (mu:=fun _=>false) ?_
      repeat' (first |refine u1 ?_ |((with_reducible show iQ _ _ _ _ _ _ _ _ _);refine RM.bandi (m:=ml) (n:=mb) rfl rfl (by omega) (by omega) ?_) |((with_reducible show ai _ _ _ _ _ _ _ _);refine af.call o5 rfl rfl ?_) |refine u2 ?_ |fail)
      exact hret (by rw [hne];decide) _ rfl (by rw [hne];rfl)
     | false =>
      rw [e7] at o5
      have hE:trE c p.away B l=0:=by rw [h5];unfold tr5;rw [if_neg (by rw [e7];simp)]
      refine aa (mu:=fun _=>false) ?_
      repeat' (first |refine u1 ?_ |((with_reducible show iQ _ _ _ _ _ _ _ _ _);refine RM.bandi (m:=ml) (n:=mb) rfl rfl (by omega) (by omega) ?_) |((with_reducible show ai _ _ _ _ _ _ _ _);refine af.call o5 rfl rfl ?_) |refine u2 ?_ |fail)
      refine aa (mu:=fun _=>false) ?_
      repeat' (first |refine u1 ?_ |refine u2 ?_ |fail)
      exact ⟨k+1,⟨hlt,by rw [hnb];exact hgo hE,by rw [hnb];exact hmem⟩,(by dsimp only;omega),aj.to (l:=[(2,.sl (T.map eT) fT),(3,.pt (aF c) 0),(4,.pt (ePln p) 0),(6,.fl (.slice none 0 0)),(7,ah 0),(8,.pt (eRot c p (menM c 0 c.aG.length) (menM c 1 c.aG.length) (menM c 2 c.aG.length)) 0),(9,.ptr 0 0 0),(10,ah (maskL (tuB T ((k+1))):Nat)),(33,.sl (T.map eT) fT),(34,ah (T.length:Nat)),(35,ah (((k+1):Nat)))]) (hp:=[.cells (gh (wk T (k+1))) 0 0]) 1 rfl ⟨rfl,rfl,rfl,rfl,rfl,rfl,rfl,cK (by rw [hnb,hML]),rfl,rfl,cK (by simp),trivial⟩ (Nat.zero_le _) rfl (one_inb _)⟩
 ·have dl:decide ((k:Int) < (T.length:Int))=false:=decide_eq_false (by omega)
  have hkn:k=T.length:=by omega
  subst hkn
  have hz:tuE c p.away [] T=0:=by rw [←hpre.err,List.drop_length];rfl
  refine aa (mu:=fun _=>false) ?_
  repeat' (first |refine u1 ?_ |refine u2 ?_ |fail)
  exact .is (aj.to (l:=[(2,.sl (T.map eT) fT),(3,.pt (aF c) 0),(4,.pt (ePln p) 0),(6,.fl (.slice none 0 0)),(7,ah 0),(8,.pt (eRot c p (menM c 0 c.aG.length) (menM c 1 c.aG.length) (menM c 2 c.aG.length)) 0),(9,.ptr 0 0 0)]) (hp:=[.cells (gh (wk T T.length)) 0 0]) 1 rfl ⟨rfl,rfl,rfl,rfl,rfl,rfl,rfl,trivial⟩ (Nat.zero_le _) rfl (one_inb _)) hz
end Go.Proofs.YtlpmfgmldmdggaaGreat
