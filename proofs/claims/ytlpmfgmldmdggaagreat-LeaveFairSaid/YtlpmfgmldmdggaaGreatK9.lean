/-
  Contracts of the program's functions and of the document's. Lemmas alone; their conditions stand in them.
-/
import Derived.Test.YtlpmfgmldmdggaaGreatK8
open Go Go.RM
namespace Go.Proofs.YtlpmfgmldmdggaaGreat
set_option maxRecDepth 100000
set_option maxHeartbeats 4000000
def It:Code→Code
 | .seq a _=>a
 | x=>x
theorem eR (W:List Int):([.cells (av W) 0 0]:List AB).all (AB.gZ 1)=true:=by have h1:AB.gZ 1 (.cells (av W) 0 0)=true:=eC 1 (fun _=>rfl) _;simp only [List.all_cons,List.all_nil,h1,Bool.and_true]
noncomputable def MX:Code:=Tryz.f31.body.getD .skip
noncomputable def GD:Code:=rm (rm (rm (rm (rm MX))))
noncomputable def Dx:Code:=rm GD
structure J9 (c:aP) (p:bW) (l:List Int):Prop where
 K4:fU 0 ((c.aA.length:Int) - 1) l=false
 L8:rC l=false
 len:(l.length:Int)≤p.aF
theorem J9.mem {c:aP} {p:bW} {l:List Int} (h:J9 c p l):∀ x ∈ l,0≤x∧x < c.aA.length:=fun x hx=>by have:=List.any_eq_false.1 h.K4 x hx;simp only [Bool.or_eq_true,decide_eq_true_eq] at this;omega
theorem J9.err {c:aP} {p:bW} {l:List Int} (h:J9 c p l) (b:List Int):ja c p.aF b l=Es c b l:=by unfold ja Bs Et;rw [if_neg (by rw [h.K4];simp),if_neg (by rw [h.L8];simp),if_neg (by have:=h.len;omega)]
structure L9 (c:aP) (p:bW) (T:List (List Int)) (k:Nat):Prop where
 le:k≤T.length
 err:kD c p.aF (zN T k) (T.drop k)=kD c p.aF [] T
 mem:∀ x ∈ zN T k,0≤x∧x < c.aA.length
theorem x9 (one:Bool) (c:aP) (hg:Good c) (p:bW) (hp:uz p) (T:List (List Int)) (fT:Bool) (hT:Bt T) (h8:∀ l ∈ T,l.length * 8≤140737488355328) (hTp:(T.length:Int)=p.turns) {K:Exit→bO→Prop} (hret:kD c p.aF [] T ≠ 0→∀ s:bO,s.fr 6=.fl (.slice none 0 0)→s.fr 7=af (kD c p.aF [] T)→K .ret s) :
  ay TT TB one (It GD) ⟨aT [(2,.sl (T.map eT) fT),(3,.pt (aD c) 0),(4,.pt (bX p) 0),(6,.fl (.slice none 0 0)),(7,af 0),(8,.pt (eV c p (aI c 0 c.aA.length) (aI c 1 c.aA.length) (aI c 2 c.aA.length)) 0),(9,.ptr 0 0 0),(10,af 0)],[.cells (av (wk T 0)) 0 0],bJ.none,false,0⟩ (qU (fun s=>Mp s ⟨aT [(2,.sl (T.map eT) fT),(3,.pt (aD c) 0),(4,.pt (bX p) 0),(6,.fl (.slice none 0 0)),(7,af 0),(8,.pt (eV c p (aI c 0 c.aA.length) (aI c 1 c.aA.length) (aI c 2 c.aA.length)) 0),(9,.ptr 0 0 0)],[.cells (av (wk T T.length)) 0 0],bJ.none,false,0⟩ (kD c p.aF [] T=0)) K):=by
 have eL:((T.map eT).length:Int)=T.length:=by simp
 have em:((c.aA.map bS).length:Int)=c.aA.length:=by simp
 have hl':=hT.len;simp only [maxLen] at hl';have hm5:=hg.aA;refine qq1 ?_;show kA _ _ _ _ (.seq (.region _ _ false) _) _ _;repeat' first|refine u1 ?_|refine u2 ?_|fail
 refine ay.aN (ak.to (l:=[(2,.sl (T.map eT) fT),(3,.pt (aD c) 0),(4,.pt (bX p) 0),(6,.fl (.slice none 0 0)),(7,af 0),(8,.pt (eV c p (aI c 0 c.aA.length) (aI c 1 c.aA.length) (aI c 2 c.aA.length)) 0),(9,.ptr 0 0 0),(10,af (bL (zN T (0)):Nat)),(33,.sl (T.map eT) fT),(34,af (T.length:Nat)),(35,af ((0:Nat)))]) (hp:=[.cells (av (wk T 0)) 0 0]) 1 rfl ⟨rfl,rfl,rfl,rfl,rfl,rfl,rfl,rfl,rfl,aH eL,rfl,trivial⟩ (qq5 _) rfl (eR _)) ?_;refine ay.loop (fun k:Nat=>L9 c p T k) (fun k=>⟨aT [(2,.sl (T.map eT) fT),(3,.pt (aD c) 0),(4,.pt (bX p) 0),(6,.fl (.slice none 0 0)),(7,af 0),(8,.pt (eV c p (aI c 0 c.aA.length) (aI c 1 c.aA.length) (aI c 2 c.aA.length)) 0),(9,.ptr 0 0 0),(10,af (bL (zN T (k)):Nat)),(33,.sl (T.map eT) fT),(34,af (T.length:Nat)),(35,af ((k:Nat)))],[.cells (av (wk T k)) 0 0],bJ.none,false,0⟩) (fun k=>T.length - k) ?_ 0 ⟨qq5 _,rfl,fun x hx=>nomatch hx⟩;intro k hpre;have hk:=hpre.le;by_cases hlt:k < T.length
 ·have dl:decide ((k:Int) < (T.length:Int))=true:=decide_eq_true (by omega);have hat:(T.map eT)[((k:Nat):Int).toNat]?=some (eT T[k]):=dm hlt;have hst:=Gu (c:=c) (w:=p.aF) hlt (zN T k);rw [hpre.err] at hst;have hnb:zN T (k+1)=T[k]:=by show (T[k]?).getD []=_;rw [List.getElem?_eq_getElem hlt];rfl
  have hlm:=hT.each _ (List.getElem_mem hlt);have hl8:=h8 _ (List.getElem_mem hlt);have hwe:=J5 hlt
  generalize T[k]=l at *
  have hB:=hpre.mem
  generalize hBB:zN T k=B at *
  have el:((ints l).length:Int)=l.length:=by simp
  have o1:=J8 one 0 ((c.aA.length:Int) - 1) l false hlm;rw [←em] at o1;have o4:=GC one l false hlm;have hfail:ja c p.aF B l ≠ 0→kD c p.aF [] T=ja c p.aF B l:=fun h=>by rw [hst,if_pos h]
  have hgo:ja c p.aF B l=0→kD c p.aF l (T.drop (k+1))=kD c p.aF [] T:=fun h=>by rw [hst,if_neg (fun hh=>hh h)]
  show ay TT TB one (.seq (.region _ _ _) (.seq (.cond _ _ _) (.seq (.block _ (.seq (.region _ _ _) (.seq (.region _ _ _) (.seq (.block _ _) (.seq (.seq (.region _ _ _) _) (.seq (.block _ _) (.region _ _ _))))))) (.region _ _ _)))) _ _;refine qq2 ?_;repeat' first|refine u1 ?_|refine u2 ?_|fail
  refine qq2 ?_;repeat' first|refine u1 ?_|refine u2 ?_|fail
  refine ay.seq (ay.block ?_);refine qq2 ?_;repeat' first|refine u1 ?_|(refine ⟨[.sl (ints l) false],⟨by omega,hat⟩,rfl,?_⟩)|refine u2 ?_|fail
  refine qq2 ?_;repeat' first|refine u1 ?_|refine u2 ?_|fail
  refine RM.sL ⟨aT [(2,.sl (T.map eT) fT),(3,.pt (aD c) 0),(4,.pt (bX p) 0),(6,.fl (.slice none 0 0)),(7,af 0),(8,.pt (eV c p (aI c 0 c.aA.length) (aI c 1 c.aA.length) (aI c 2 c.aA.length)) 0),(9,.ptr 0 0 0),(10,af (bL B:Nat)),(33,.sl (T.map eT) fT),(34,af (T.length:Nat)),(35,af (k:Nat)),(12,.sl (ints l) false),(13,af 0)],[.cells (av (wk T k)) 0 0],bJ.none,false,0⟩ (J9 c p l) ?_ (fun hok=>?_)
  ·cases e1:fU 0 ((c.aA.length:Int) - 1) l with
   | true =>
    have hE:ja c p.aF B l=4:=by unfold ja;rw [if_pos e1]
    have hne:kD c p.aF [] T=4:=by rw [hfail (by rw [hE];decide),hE]
    rw [em,e1,←em] at o1;refine qq1 ?_;repeat' first|refine u1 ?_|((with_reducible refine qq3 ?_);refine ah.call o1 rfl rfl ?_)|refine u2 ?_|fail
    exact hret (by rw [hne];decide) _ rfl (by rw [hne];rfl)
   | false =>
    have h2:ja c p.aF B l=Bs c p.aF B l:=by unfold ja;rw [if_neg (by rw [e1];simp)]
    rw [em,e1,←em] at o1;refine qq1 ?_;repeat' first|refine u1 ?_|((with_reducible refine qq3 ?_);refine ah.call o1 rfl rfl ?_)|refine u2 ?_|fail
    refine Gx one l false hl8 (fun hl=>?_) (fun v cc _=>?_)
    ·subst hl;have o4':Pu one 78 [.sl (ints []) false] (BB true):=o4;have cn:=Bw one;have z0:decide (((ints []).length:Int) < ((ints []).length:Int))=false:=rfl;have z1:decide ((([]:List (List AV)).length:Int) < ((ints []).length:Int))=false:=rfl;have z2:decide (p.aF < ((ints []).length:Int))=false:=decide_eq_false (by have:=hp.aF;show ¬ p.aF < 0;omega);repeat' first|refine u1 ?_|((with_reducible refine qq3 ?_);refine ah.call cn rfl rfl ?_)|((with_reducible refine qq3 ?_);refine ah.call o4' rfl rfl ?_)|refine u2 ?_|fail
     exact .is (ak.to (l:=[(2,.sl (T.map eT) fT),(3,.pt (aD c) 0),(4,.pt (bX p) 0),(6,.fl (.slice none 0 0)),(7,af 0),(8,.pt (eV c p (aI c 0 c.aA.length) (aI c 1 c.aA.length) (aI c 2 c.aA.length)) 0),(9,.ptr 0 0 0),(10,af (bL B:Nat)),(33,.sl (T.map eT) fT),(34,af (T.length:Nat)),(35,af (k:Nat)),(12,.sl (ints []) false),(13,af 0)]) (hp:=[.cells (av (wk T k)) 0 0]) 1 rfl ⟨rfl,rfl,rfl,rfl,rfl,rfl,rfl,rfl,rfl,rfl,rfl,rfl,rfl,trivial⟩ (qq5 _) rfl (eR _)) ⟨e1,rfl,by have:=hp.aF;show (0:Int)≤p.aF;omega⟩
    ·repeat' first|refine u1 ?_|refine u2 ?_|fail
     refine CB one l (wk T k) hl8 (fun hno=>?_) (fun hyes n' c' X hn=>?_)
     ·have z1:decide ((l.length:Int) < ((ints l).length:Int))=false:=decide_eq_false (by omega)
      cases e2:CG l with
      | true =>
       rw [e2] at o4;have hE:ja c p.aF B l=2:=by rw [h2];unfold Bs;rw [if_pos (by rw [GA hno];exact e2)]
       have hne:kD c p.aF [] T=2:=by rw [hfail (by rw [hE];decide),hE]
       repeat' first|refine u1 ?_|((with_reducible refine qq3 ?_);refine ah.call o4 rfl rfl ?_)|refine u2 ?_|fail
       exact hret (by rw [hne];decide) _ rfl (by rw [hne];rfl)
      | false =>
       rw [e2] at o4;have e3:rC l=false:=by rw [GA hno];exact e2
       have h3:ja c p.aF B l=Et c p.aF B l:=by rw [h2];unfold Bs;rw [if_neg (by rw [e3];simp)]
       cases e4:decide (p.aF < ((ints l).length:Int)) with
       | true =>
        have hE:ja c p.aF B l=3:=by rw [h3];unfold Et;rw [if_pos (by have:=of_decide_eq_true e4;omega)]
        have hne:kD c p.aF [] T=3:=by rw [hfail (by rw [hE];decide),hE]
        repeat' first|refine u1 ?_|((with_reducible refine qq3 ?_);refine ah.call o4 rfl rfl ?_)|refine u2 ?_|fail
        exact hret (by rw [hne];decide) _ rfl (by rw [hne];rfl)
       | false =>
        repeat' first|refine u1 ?_|((with_reducible refine qq3 ?_);refine ah.call o4 rfl rfl ?_)|refine u2 ?_|fail
        exact .is (ak.to (l:=[(2,.sl (T.map eT) fT),(3,.pt (aD c) 0),(4,.pt (bX p) 0),(6,.fl (.slice none 0 0)),(7,af 0),(8,.pt (eV c p (aI c 0 c.aA.length) (aI c 1 c.aA.length) (aI c 2 c.aA.length)) 0),(9,.ptr 0 0 0),(10,af (bL B:Nat)),(33,.sl (T.map eT) fT),(34,af (T.length:Nat)),(35,af (k:Nat)),(12,.sl (ints l) false),(13,af 0)]) (hp:=[.cells (av (wk T k)) 0 0]) 1 rfl ⟨rfl,rfl,rfl,rfl,rfl,rfl,rfl,rfl,rfl,rfl,rfl,rfl,rfl,trivial⟩ (qq5 _) rfl (eR _)) ⟨e1,e3,by have:=of_decide_eq_false e4;omega⟩
     ·have z1:decide ((n':Int) < ((ints l).length:Int))=true:=decide_eq_true (by omega);have hE:ja c p.aF B l=2:=by rw [h2];unfold Bs;rw [if_pos (J4 hyes)]
      have hne:kD c p.aF [] T=2:=by rw [hfail (by rw [hE];decide),hE]
      repeat' first|refine u1 ?_|((with_reducible refine qq3 ?_);refine ah.call o4 rfl rfl ?_)|refine u2 ?_|fail
      exact hret (by rw [hne];decide) _ rfl (by rw [hne];rfl)
  ·have hmem:=hok.mem;have hB5:∀ x ∈ B,0≤x∧x < 5:=fun x hx=>by have:=hB x hx;omega
   have hl5:∀ x ∈ l,0≤x∧x < 5:=fun x hx=>by have:=hmem x hx;omega
   have bB:bL B < 32:=rF fun x hx=>(hB5 x hx).2;have bl:bL l < 32:=rF fun x hx=>(hl5 x hx).2;refine ay.seq ?_;refine qq1 ?_;show kA _ _ _ _ (.seq (.region _ _ false) _) _ _;repeat' first|refine u1 ?_|refine u2 ?_|fail
   refine ay.aN (ak.to (l:=[(2,.sl (T.map eT) fT),(3,.pt (aD c) 0),(4,.pt (bX p) 0),(6,.fl (.slice none 0 0)),(7,af 0),(8,.pt (eV c p (aI c 0 c.aA.length) (aI c 1 c.aA.length) (aI c 2 c.aA.length)) 0),(9,.ptr 0 0 0),(10,af (bL B:Nat)),(33,.sl (T.map eT) fT),(34,af (T.length:Nat)),(35,af (k:Nat)),(12,.sl (ints l) false),(13,af (bL (l.take (0)):Nat)),(65,.sl (ints l) false),(66,af (l.length:Nat)),(67,af ((0:Nat)))]) (hp:=[.cells (av (wq T k l 0)) 0 0]) 1 (by show _=[AB.cells (av (wq T k l 0)) 0 0];rw [Is];rfl) ⟨rfl,rfl,rfl,rfl,rfl,rfl,rfl,rfl,rfl,rfl,rfl,rfl,rfl,rfl,aH el,rfl,trivial⟩ (qq5 _) rfl (eR _)) ?_;refine ay.loop (fun q:Nat=>q≤l.length) (fun q=>⟨aT [(2,.sl (T.map eT) fT),(3,.pt (aD c) 0),(4,.pt (bX p) 0),(6,.fl (.slice none 0 0)),(7,af 0),(8,.pt (eV c p (aI c 0 c.aA.length) (aI c 1 c.aA.length) (aI c 2 c.aA.length)) 0),(9,.ptr 0 0 0),(10,af (bL B:Nat)),(33,.sl (T.map eT) fT),(34,af (T.length:Nat)),(35,af (k:Nat)),(12,.sl (ints l) false),(13,af (bL (l.take (q)):Nat)),(65,.sl (ints l) false),(66,af (l.length:Nat)),(67,af ((q:Nat)))],[.cells (av (wq T k l q)) 0 0],bJ.none,false,0⟩) (fun q=>l.length - q) ?_ 0 (qq5 _);intro q hq;by_cases hql:q < l.length
   ·have d2:decide ((q:Int) < (l.length:Int))=true:=decide_eq_true (by omega);have hz:=hl5 _ (List.mem_of_getElem? (ku hql));have hat2:=pR hql;have hmt:=CD hql;have bq:bL (l.take q) < 32:=rF fun x hx=>(hl5 x (List.mem_of_mem_take hx)).2;have hnew:=Dv hok.L8 hql;obtain ⟨m,hm⟩:∃ m:Nat,fG l q=(m:Int):=⟨(fG l q).toNat,(Int.toNat_of_nonneg hz.1).symm⟩;have hset:=J6 (T:=T) (k:=k) hok.L8 hql hm;have hm5':m < 5:=by omega
    have g1:=nP (Dw (T:=T) (k:=k) (l:=l) (q:=q) hm5');rw [hm] at hnew hat2 hmt;rw [hnew,if_neg (by simp),Int.add_zero] at g1;rw [Int.toNat_natCast] at hmt;have bc:=CA T m k;have hsp:=lU (S:=wq T k l q) (k:=m) (by rw [wv];exact hm5') ((lA T m k:Int)+1);rw [hset] at hsp;have hln:Nat.ble (0+((m:Nat):Int).toNat * 1+1) (av (wq T k l q)).length=true:=Nat.ble_eq_true_of_le (by rw [List.length_map,wv];omega);have bk:2 ^ m < 32:=by have:(2:Nat) ^ m≤2 ^ 4:=Nat.pow_le_pow_right (by decide) (by omega);omega
    generalize hX:bL (l.take q)=x0 at *
    generalize hC:lA T m k=y0 at *
    have hm8:m < 8:=by omega
    refine qq1 ?_;repeat' first|((with_reducible show aQ _ _ _ _ _ _ _ _ _);refine RM.v8 (j:=m) rfl rfl hm8 ?_)|((with_reducible show aQ _ _ _ _ _ _ _ _ _);refine RM.Ie (m:=x0) (n:=2 ^ m) rfl rfl (by omega) (by omega) ?_)|((with_reducible show RM.wpOp _ _ (.load _ _) _ _ _);refine RM.cU rfl rfl rfl g1 ?_)|((with_reducible show aR _ _ _ _ _ _);refine RM.lY rfl rfl rfl rfl rfl rfl hln ?_)|refine u1 ?_|(refine ⟨[af (m:Nat)],⟨by omega,hat2⟩,rfl,?_⟩)|refine u2 ?_|fail
    exact ⟨q+1,hql,(by dsimp only;omega),ak.to (l:=[(2,.sl (T.map eT) fT),(3,.pt (aD c) 0),(4,.pt (bX p) 0),(6,.fl (.slice none 0 0)),(7,af 0),(8,.pt (eV c p (aI c 0 c.aA.length) (aI c 1 c.aA.length) (aI c 2 c.aA.length)) 0),(9,.ptr 0 0 0),(10,af (bL B:Nat)),(33,.sl (T.map eT) fT),(34,af (T.length:Nat)),(35,af (k:Nat)),(12,.sl (ints l) false),(13,af (bL (l.take ((q+1))):Nat)),(65,.sl (ints l) false),(66,af (l.length:Nat)),(67,af (((q+1):Nat)))]) (hp:=[.cells (av (wq T k l (q+1))) 0 0]) 1 (by show _=[AB.cells (av (wq T k l (q+1))) 0 0];rw [←hsp];rfl) ⟨rfl,rfl,rfl,rfl,rfl,rfl,rfl,rfl,rfl,rfl,rfl,rfl,aH (by rw [hmt]),rfl,rfl,aH (by simp),trivial⟩ (qq5 _) rfl (eR _)⟩
   ·have d2:decide ((q:Int) < (l.length:Int))=false:=decide_eq_false (by omega);have hqn:q=l.length:=by omega
    subst hqn;have t1:=Bv (fun x hx=>(hB5 x hx).1) (fun x hx=>(hl5 x hx).1);have t2:=wo hg hl5;have o5:=Bo one c p _ _ _ (bL l) (jF (c:=c) 0 hm5.2) (jF (c:=c) 1 hm5.2) (jF (c:=c) 2 hm5.2) bl;rw [t2] at o5;have h4:=hok.err B;refine qq1 ?_;repeat' first|refine u1 ?_|refine u2 ?_|fail
    refine ay.aN (ak.to (l:=[(2,.sl (T.map eT) fT),(3,.pt (aD c) 0),(4,.pt (bX p) 0),(6,.fl (.slice none 0 0)),(7,af 0),(8,.pt (eV c p (aI c 0 c.aA.length) (aI c 1 c.aA.length) (aI c 2 c.aA.length)) 0),(9,.ptr 0 0 0),(10,af (bL B:Nat)),(33,.sl (T.map eT) fT),(34,af (T.length:Nat)),(35,af (k:Nat)),(13,af (bL l:Nat))]) (hp:=[.cells (av (wk T (k+1))) 0 0]) 1 (by show _=[AB.cells (av (wk T (k+1))) 0 0];rw [←hwe];rfl) ⟨rfl,rfl,rfl,rfl,rfl,rfl,rfl,rfl,rfl,rfl,rfl,aH (by rw [List.take_length]),trivial⟩ (qq5 _) rfl (eR _)) ?_
    generalize hML:bL l=ml at *
    generalize hMB:bL B=mb at *
    cases e6:l.any fun x=>gL B x with
    | true =>
     rw [e6] at t1;have hE:ja c p.aF B l=5:=by rw [h4];unfold Es;rw [if_pos e6]
     have hne:kD c p.aF [] T=5:=by rw [hfail (by rw [hE];decide),hE]
     refine qq1 ?_;repeat' first|refine u1 ?_|((with_reducible show aQ _ _ _ _ _ _ _ _ _);refine RM.Bm (m:=ml) (n:=mb) rfl rfl (by omega) (by omega) ?_)|refine u2 ?_|fail
     exact hret (by rw [hne];decide) _ rfl (by rw [hne];rfl)
    | false =>
     rw [e6] at t1;have h5:ja c p.aF B l=Er c l:=by rw [h4];unfold Es;rw [if_neg (by rw [e6];simp)]
     cases e7:jG c l with
     | true =>
      rw [e7] at o5;have hE:ja c p.aF B l=8:=by rw [h5];unfold Er;rw [if_pos e7]
      have hne:kD c p.aF [] T=8:=by rw [hfail (by rw [hE];decide),hE]
      refine qq1 ?_;repeat' first|refine u1 ?_|((with_reducible show aQ _ _ _ _ _ _ _ _ _);refine RM.Bm (m:=ml) (n:=mb) rfl rfl (by omega) (by omega) ?_)|((with_reducible refine qq3 ?_);refine ah.call o5 rfl rfl ?_)|refine u2 ?_|fail
      exact hret (by rw [hne];decide) _ rfl (by rw [hne];rfl)
     | false =>
      rw [e7] at o5;have hE:ja c p.aF B l=0:=by rw [h5];unfold Er;rw [if_neg (by rw [e7];simp)]
      refine qq1 ?_;repeat' first|refine u1 ?_|((with_reducible show aQ _ _ _ _ _ _ _ _ _);refine RM.Bm (m:=ml) (n:=mb) rfl rfl (by omega) (by omega) ?_)|((with_reducible refine qq3 ?_);refine ah.call o5 rfl rfl ?_)|refine u2 ?_|fail
      refine qq1 ?_;repeat' first|refine u1 ?_|refine u2 ?_|fail
      exact ⟨k+1,⟨hlt,by rw [hnb];exact hgo hE,by rw [hnb];exact hmem⟩,(by dsimp only;omega),ak.to (l:=[(2,.sl (T.map eT) fT),(3,.pt (aD c) 0),(4,.pt (bX p) 0),(6,.fl (.slice none 0 0)),(7,af 0),(8,.pt (eV c p (aI c 0 c.aA.length) (aI c 1 c.aA.length) (aI c 2 c.aA.length)) 0),(9,.ptr 0 0 0),(10,af (bL (zN T ((k+1))):Nat)),(33,.sl (T.map eT) fT),(34,af (T.length:Nat)),(35,af (((k+1):Nat)))]) (hp:=[.cells (av (wk T (k+1))) 0 0]) 1 rfl ⟨rfl,rfl,rfl,rfl,rfl,rfl,rfl,aH (by rw [hnb,hML]),rfl,rfl,aH (by simp),trivial⟩ (qq5 _) rfl (eR _)⟩
 ·have dl:decide ((k:Int) < (T.length:Int))=false:=decide_eq_false (by omega);have hkn:k=T.length:=by omega
  subst hkn;have hz:kD c p.aF [] T=0:=by rw [←hpre.err,List.drop_length];rfl
  refine qq1 ?_;repeat' first|refine u1 ?_|refine u2 ?_|fail
  exact .is (ak.to (l:=[(2,.sl (T.map eT) fT),(3,.pt (aD c) 0),(4,.pt (bX p) 0),(6,.fl (.slice none 0 0)),(7,af 0),(8,.pt (eV c p (aI c 0 c.aA.length) (aI c 1 c.aA.length) (aI c 2 c.aA.length)) 0),(9,.ptr 0 0 0)]) (hp:=[.cells (av (wk T T.length)) 0 0]) 1 rfl ⟨rfl,rfl,rfl,rfl,rfl,rfl,rfl,trivial⟩ (qq5 _) rfl (eR _)) hz
end Go.Proofs.YtlpmfgmldmdggaaGreat
open Go Go.RM
namespace Go.Proofs.YtlpmfgmldmdggaaGreat
set_option maxRecDepth 100000
set_option maxHeartbeats 4000000
theorem Iu {e:Int} {s:bO} (h6:s.fr 6=.fl (.slice none 0 0)) (h7:s.fr 7=af e):A9 TT Tryz.f31.results.toList (.tp [.sl [] false,af e]) .ret s:=by show ∃ vs,zf s.hp [s.fr 6,s.fr 7] vs∧zg vs=_;rw [h6,h7];exact ⟨[_,_],⟨Fz.nil,Fz.deep rfl,trivial⟩,rfl⟩
theorem GF (one:Bool) (c:aP) (hg:Good c) (p:bW) (hp:uz p) (T:List (List Int)) (fT:Bool) (hTp:(T.length:Int)=p.turns) :
  ay TT TB one Dx ⟨aT [(2,.sl (T.map eT) fT),(3,.pt (aD c) 0),(4,.pt (bX p) 0),(6,.fl (.slice none 0 0)),(7,af 0),(8,.pt (eV c p (aI c 0 c.aA.length) (aI c 1 c.aA.length) (aI c 2 c.aA.length)) 0),(9,.ptr 0 0 0)],[.cells (av (wk T T.length)) 0 0],bJ.none,false,0⟩ (A9 TT Tryz.f31.results.toList (.tp [.sl (ints (pT c p T c.aA.length)) false,af 0])):=by
 have em:((c.aA.map bS).length:Int)=c.aA.length:=by simp
 have hm5:=hg.aA;have ht4:=hp.turns;refine ay.aN (ak.trans (ak.giveUp 0 (l:=[(3,.pt (aD c) 0),(6,.fl (.slice none 0 0)),(8,.pt (eV c p (aI c 0 c.aA.length) (aI c 1 c.aA.length) (aI c 2 c.aA.length)) 0),(9,.pt (av (wk T T.length)) 0)]) (hp:=[.gone]) rfl (qq5 _) (sK _) ⟨.same rfl,.same rfl,.same rfl,.ptr,trivial⟩ rfl rfl) (ak.to (l:=[(3,.pt (aD c) 0),(6,.fl (.slice none 0 0)),(8,.pt (eV c p (aI c 0 c.aA.length) (aI c 1 c.aA.length) (aI c 2 c.aA.length)) 0),(9,.pt (av (wk T T.length)) 0)]) (hp:=[]) 0 rfl ⟨rfl,rfl,rfl,rfl,trivial⟩ (qq5 _) rfl rfl)) ?_;refine qq1 ?_;show kA _ _ _ _ (.seq (.seq (.region _ _ false) _) _) _ _;repeat' first|refine u1 ?_|refine u2 ?_|fail
 refine ay.aN (ak.trans (ak.mP 1) (ak.HM (l:=[(3,.pt (aD c) 0),(6,.aL 0 0 0 0 0),(8,.pt (eV c p (aI c 0 c.aA.length) (aI c 1 c.aA.length) (aI c 2 c.aA.length)) 0),(9,.pt (av (wk T T.length)) 0),(95,af ((c.aA.map bS).length:Nat)),(96,af ((0:Nat):Int))]) (hp:=[.cells (av (pT c p T ((0,0,0):Nat × Nat × Nat).1)) 1 ((0,0,0):Nat × Nat × Nat).2.1]) 1 rfl ⟨dI.refl _,dI.mO,dI.refl _,dI.refl _,dI.refl _,dI.refl _,trivial⟩ (qq5 _) rfl (ax _ _))) ?_;refine ay.aN (ak.to (l:=[(3,.pt (aD c) 0),(6,.aL 0 ((0,0,0):Nat × Nat × Nat).2.1 0 ((0,0,0):Nat × Nat × Nat).1 ((0,0,0):Nat × Nat × Nat).2.2),(8,.pt (eV c p (aI c 0 c.aA.length) (aI c 1 c.aA.length) (aI c 2 c.aA.length)) 0),(9,.pt (av (wk T T.length)) 0),(95,af (c.aA.length:Nat)),(96,af (((0,0,0):Nat × Nat × Nat).1:Nat))]) (hp:=[.cells (av (pT c p T ((0,0,0):Nat × Nat × Nat).1)) 1 ((0,0,0):Nat × Nat × Nat).2.1]) 1 rfl ⟨rfl,rfl,rfl,rfl,aH em,rfl,trivial⟩ (qq5 _) rfl (ax _ _)) ?_;refine ay.loop (fun x:Nat × Nat × Nat=>x.1≤c.aA.length∧(x.2.2=x.1∨x.2.2=x.1+1)) (fun x=>⟨aT [(3,.pt (aD c) 0),(6,.aL 0 x.2.1 0 x.1 x.2.2),(8,.pt (eV c p (aI c 0 c.aA.length) (aI c 1 c.aA.length) (aI c 2 c.aA.length)) 0),(9,.pt (av (wk T T.length)) 0),(95,af (c.aA.length:Nat)),(96,af (x.1:Nat))],[.cells (av (pT c p T x.1)) 1 x.2.1],bJ.none,false,0⟩) (fun x=>c.aA.length - x.1) ?_ (0,0,0) ⟨qq5 _,.inl rfl⟩;rintro ⟨k,v,cc⟩ ⟨hk,hcap⟩;dsimp only at hk hcap;show ay _ _ _ _ ⟨aT [(3,.pt (aD c) 0),(6,.aL 0 ((k,v,cc):Nat × Nat × Nat).2.1 0 ((k,v,cc):Nat × Nat × Nat).1 ((k,v,cc):Nat × Nat × Nat).2.2),(8,.pt (eV c p (aI c 0 c.aA.length) (aI c 1 c.aA.length) (aI c 2 c.aA.length)) 0),(9,.pt (av (wk T T.length)) 0),(95,af (c.aA.length:Nat)),(96,af (((k,v,cc):Nat × Nat × Nat).1:Nat))],[.cells (av (pT c p T ((k,v,cc):Nat × Nat × Nat).1)) 1 ((k,v,cc):Nat × Nat × Nat).2.1],bJ.none,false,0⟩ _;dsimp only;by_cases hlt:k < c.aA.length
 ·have dl:decide ((k:Int) < (c.aA.length:Int))=true:=decide_eq_true (by omega);have b1:=CA T k T.length;have p1:=Bp true c hg p hp (aI c 0 c.aA.length) (aI c 1 c.aA.length) (aI c 2 c.aA.length) k hlt (lA T k T.length:Nat) ⟨by omega,by omega⟩;have hat:=nP (Ls (T:=T) (k:=T.length) (m:=k) (by omega));have hst:=Gw c p T k;have hgl:(av (pT c p T k)).length=k * 1:=by rw [List.length_map,mS];omega
  generalize En c p k (lA T k T.length:Nat)=z at *
  generalize lA T k T.length=y at *
  refine aa (mu:=fun t=>Nat.beq t 107) ?_;repeat' first|((with_reducible show RM.wpOp _ _ (.load _ _) _ _ _);refine RM.Mk rfl rfl hat ?_)|(refine ⟨_,_,.inl ⟨rfl,rfl⟩,p1,?_⟩)|((with_reducible show RM.wpOp _ _ (.call _) _ _ _);refine RM.sD (cs:=av (pT c p T k)) (n:=k) (els:=[eI z]) rfl rfl rfl rfl rfl (fun el hel=>by rw [List.mem_singleton.1 hel];rfl) rfl rfl hgl hcap (by simp only [List.length_singleton];omega) (fun v' c' hc'=>?_))|refine u1 ?_|refine u2 ?_|fail
  exact ⟨(k+1,v',c'),⟨hlt,hc'⟩,(by dsimp only;omega),ak.to (l:=[(3,.pt (aD c) 0),(6,.aL 0 ((k+1,v',c'):Nat × Nat × Nat).2.1 0 ((k+1,v',c'):Nat × Nat × Nat).1 ((k+1,v',c'):Nat × Nat × Nat).2.2),(8,.pt (eV c p (aI c 0 c.aA.length) (aI c 1 c.aA.length) (aI c 2 c.aA.length)) 0),(9,.pt (av (wk T T.length)) 0),(95,af (c.aA.length:Nat)),(96,af (((k+1,v',c'):Nat × Nat × Nat).1:Nat))]) (hp:=[.cells (av (pT c p T ((k+1,v',c'):Nat × Nat × Nat).1)) 1 ((k+1,v',c'):Nat × Nat × Nat).2.1]) 1 (by show _=[AB.cells (av (pT c p T (k+1))) 1 v'];rw [hst];unfold av;rw [List.map_append];rfl) ⟨rfl,rfl,rfl,rfl,rfl,aH (by simp),trivial⟩ (qq5 _) rfl (ax _ _)⟩
 ·have dl:decide ((k:Int) < (c.aA.length:Int))=false:=decide_eq_false (by omega);have hkn:k=c.aA.length:=by omega
  subst hkn;refine qq1 ?_;repeat' first|refine u1 ?_|refine u2 ?_|fail
  exact ⟨[_,_],⟨wm rfl (mS c p T _),Fz.deep rfl,trivial⟩,rfl⟩
theorem Iv (one:Bool) (c:aP) (h:c.Ok) (p:bW) (T:List (List Int)) (fT:Bool) (hT:Bt T) (h8:∀ l ∈ T,l.length * 8≤140737488355328):Pu one 31 [.ag (aD c),.ag (bX p),.sl (T.map eT) fT] (.tp [.sl (ints (L7 c p T)) false,af (uB c p T)]):=by
 have eL:((T.map eT).length:Int)=T.length:=by simp
 unfold L7;by_cases h0:nQ c p=0
 ·have o1:=Br one c h p h0;obtain ⟨hg,hp⟩:=Bn h0;have d0:(!decide ((0:Int)=0))=false:=rfl;by_cases h1:(T.length:Int)=p.turns
  ·have d1:(!decide (((T.map eT).length:Int)=p.turns))=false:=by rw [decide_eq_true (by omega)];rfl
   have hts:uB c p T=kD c p.aF [] T:=by unfold uB;rw [if_neg (fun hh=>hh h0),if_neg (fun hh=>hh h1)]
   rw [hts];refine ah.body (fn:=Tryz.f31) rfl rfl rfl rfl ?_;show ay TT TB one (.seq (.region _ _ _) (.seq (.region _ _ _) (.seq (.block _ _) (.seq (.region _ _ _) (.seq (.region _ _ _) (.seq (It GD) Dx)))))) _ _;refine qq2 ?_;repeat' first|refine u1 ?_|refine u2 ?_|fail
   refine qq2 ?_;repeat' first|refine u1 ?_|((with_reducible refine qq3 ?_);refine ah.call o1 rfl rfl ?_)|refine u2 ?_|fail
   refine ay.aN (ak.trans (ak.giveUp 0 (l:=[(2,.sl (T.map eT) fT),(3,.pt (aD c) 0),(4,.pt (bX p) 0),(6,.fl (.slice none 0 0)),(7,af 0),(8,.pt (eV c p (aI c 0 c.aA.length) (aI c 1 c.aA.length) (aI c 2 c.aA.length)) 0)]) (hp:=[.gone]) rfl (qq5 _) rfl ⟨.same rfl,.same rfl,.same rfl,.same rfl,.same rfl,.ptr,trivial⟩ rfl rfl) (ak.to (l:=[(2,.sl (T.map eT) fT),(3,.pt (aD c) 0),(4,.pt (bX p) 0),(6,.fl (.slice none 0 0)),(7,af 0),(8,.pt (eV c p (aI c 0 c.aA.length) (aI c 1 c.aA.length) (aI c 2 c.aA.length)) 0)]) (hp:=[]) 0 rfl ⟨rfl,rfl,rfl,rfl,rfl,rfl,trivial⟩ (qq5 _) rfl rfl)) ?_;refine qq2 ?_;repeat' first|refine u1 ?_|refine u2 ?_|fail
   refine qq2 ?_;repeat' first|refine u1 ?_|refine u2 ?_|fail
   refine qq2 ?_;repeat' first|refine u1 ?_|refine u2 ?_|fail
   refine ay.aN (ak.to (l:=[(2,.sl (T.map eT) fT),(3,.pt (aD c) 0),(4,.pt (bX p) 0),(6,.fl (.slice none 0 0)),(7,af 0),(8,.pt (eV c p (aI c 0 c.aA.length) (aI c 1 c.aA.length) (aI c 2 c.aA.length)) 0),(9,.ptr 0 0 0),(10,af 0)]) (hp:=[.cells (av (wk T 0)) 0 0]) 1 rfl ⟨rfl,rfl,rfl,rfl,rfl,rfl,rfl,rfl,trivial⟩ (qq5 _) rfl (eR _)) ?_;by_cases h2:kD c p.aF [] T=0
   ·rw [if_pos h2,h2];exact RM.sL ⟨aT [(2,.sl (T.map eT) fT),(3,.pt (aD c) 0),(4,.pt (bX p) 0),(6,.fl (.slice none 0 0)),(7,af 0),(8,.pt (eV c p (aI c 0 c.aA.length) (aI c 1 c.aA.length) (aI c 2 c.aA.length)) 0),(9,.ptr 0 0 0)],[.cells (av (wk T T.length)) 0 0],bJ.none,false,0⟩ (kD c p.aF [] T=0) (x9 one c hg p hp T fT hT h8 h1 fun hh=>absurd h2 hh) fun _=>GF one c hg p hp T fT h1
   ·rw [if_neg h2];exact RM.sL ⟨aT [(2,.sl (T.map eT) fT),(3,.pt (aD c) 0),(4,.pt (bX p) 0),(6,.fl (.slice none 0 0)),(7,af 0),(8,.pt (eV c p (aI c 0 c.aA.length) (aI c 1 c.aA.length) (aI c 2 c.aA.length)) 0),(9,.ptr 0 0 0)],[.cells (av (wk T T.length)) 0 0],bJ.none,false,0⟩ (kD c p.aF [] T=0) (x9 one c hg p hp T fT hT h8 h1 fun _ s h6 h7=>Iu h6 h7) fun hh=>absurd hh h2
  ·have d1:(!decide (((T.map eT).length:Int)=p.turns))=true:=by rw [decide_eq_false (by omega)];rfl
   have hts:uB c p T=3:=by unfold uB;rw [if_neg (fun hh=>hh h0),if_pos h1]
   rw [hts,if_neg (by decide)];refine ah.body (fn:=Tryz.f31) rfl rfl rfl rfl ?_;show ay TT TB one (.seq (.region _ _ _) (.seq (.region _ _ _) (.seq (.block _ _) (.seq (.region _ _ _) (.seq (.region _ _ _) (.seq (It GD) Dx)))))) _ _;refine qq2 ?_;repeat' first|refine u1 ?_|refine u2 ?_|fail
   refine qq2 ?_;repeat' first|refine u1 ?_|((with_reducible refine qq3 ?_);refine ah.call o1 rfl rfl ?_)|refine u2 ?_|fail
   refine qq2 ?_;repeat' first|refine u1 ?_|refine u2 ?_|fail
   exact ⟨[_,_],⟨Fz.nil,Fz.deep rfl,trivial⟩,rfl⟩
 ·have o1:=x8 one c h p h0;have d0:(!decide (nQ c p=0))=true:=by rw [decide_eq_false h0];rfl
  have hts:uB c p T=nQ c p:=by unfold uB;rw [if_pos h0]
  rw [hts,if_neg h0]
  generalize nQ c p=e at *
  refine ah.body (fn:=Tryz.f31) rfl rfl rfl rfl ?_;show ay TT TB one (.seq (.region _ _ _) (.seq (.region _ _ _) (.seq (.block _ _) (.seq (.region _ _ _) (.seq (.region _ _ _) (.seq (It GD) Dx)))))) _ _;refine qq2 ?_;repeat' first|refine u1 ?_|refine u2 ?_|fail
  refine qq2 ?_;repeat' first|refine u1 ?_|((with_reducible refine qq3 ?_);refine ah.call o1 rfl rfl ?_)|refine u2 ?_|fail
  refine qq2 ?_;repeat' first|refine u1 ?_|refine u2 ?_|fail
  exact ⟨[_,_],⟨Fz.nil,Fz.deep rfl,trivial⟩,rfl⟩
end Go.Proofs.YtlpmfgmldmdggaaGreat
open Go Go.RM
namespace Go.Proofs.YtlpmfgmldmdggaaGreat
set_option maxRecDepth 100000
set_option maxHeartbeats 4000000
