/-
  Contracts; their conditions stand in them.
-/
import Derived.Test.YtlpmfgmldmdggaaGreatO5
import Derived.Test.YtlpmfgmldmdggaaGreatA2
import Derived.SizedLaws
open Go Go.RM
namespace Go.Proofs.YtlpmfgmldmdggaaGreat
set_option maxRecDepth 100000
set_option maxHeartbeats 4000000
theorem ret_nil {e:Int} {s:aR} (h6:s.fr 6=.fl (.slice none 0 0)) (h7:s.fr 7=ah e):wK TT Tryz.f31.results.toList (.tp [.sl [] false,ah e]) .ret s:=by
 show ∃ vs,Af s.hp [s.fr 6,s.fr 7] vs∧l6 vs=_
 rw [h6,h7]
 exact ⟨[_,_],⟨Fz.nil,Fz.deep rfl,trivial⟩,rfl⟩
theorem owed_end (one:Bool) (c:ay) (hg:Good c) (p:Pln) (hp:POk p) (T:List (List Int)) (fT:Bool) (hTp:(T.length:Int)=p.turns) :
  aC TT TB one t31b ⟨bM [(2,.sl (T.map eT) fT),(3,.pt (aF c) 0),(4,.pt (ePln p) 0),(6,.fl (.slice none 0 0)),(7,ah 0),(8,.pt (eRot c p (menM c 0 c.aG.length) (menM c 1 c.aG.length) (menM c 2 c.aG.length)) 0),(9,.ptr 0 0 0)],[.cells (gh (wk T T.length)) 0 0],bw.none,false,0⟩ (wK TT Tryz.f31.results.toList (.tp [.sl (ints (owK c p T c.aG.length)) false,ah 0])):=by
 have em:((c.aG.map bp).length:Int)=c.aG.length:=by simp
 have hm5:=hg.aG
 have ht4:=hp.turns
 refine aC.bx (aj.trans (aj.giveUp 0 (l:=[(3,.pt (aF c) 0),(6,.fl (.slice none 0 0)),(8,.pt (eRot c p (menM c 0 c.aG.length) (menM c 1 c.aG.length) (menM c 2 c.aG.length)) 0),(9,.pt (gh (wk T T.length)) 0)]) (hp:=[.gone]) rfl (Nat.zero_le _) (tH _) ⟨.same rfl,.same rfl,.same rfl,.ptr,trivial⟩ rfl rfl) (aj.to (l:=[(3,.pt (aF c) 0),(6,.fl (.slice none 0 0)),(8,.pt (eRot c p (menM c 0 c.aG.length) (menM c 1 c.aG.length) (menM c 2 c.aG.length)) 0),(9,.pt (gh (wk T T.length)) 0)]) (hp:=[]) 0 rfl ⟨rfl,rfl,rfl,rfl,trivial⟩ (Nat.zero_le _) rfl rfl)) ?_
 refine aa (mu:=fun _=>false) ?_
 show kE _ _ _ _ (.seq (.seq (.region _ _ false) _) _) _ _
 repeat' (first |refine u1 ?_ |refine u2 ?_ |fail)
 refine aC.bx (aj.trans (aj.tu 1) (aj.KK (l:=[(3,.pt (aF c) 0),(6,.cS 0 0 0 0 0),(8,.pt (eRot c p (menM c 0 c.aG.length) (menM c 1 c.aG.length) (menM c 2 c.aG.length)) 0),(9,.pt (gh (wk T T.length)) 0),(95,ah ((c.aG.map bp).length:Nat)),(96,ah ((0:Nat):Int))]) (hp:=[.cells (gh (owK c p T ((0,0,0):Nat × Nat × Nat).1)) 1 ((0,0,0):Nat × Nat × Nat).2.1]) 1 rfl ⟨eW.refl _,eW.tq,eW.refl _,eW.refl _,eW.refl _,eW.refl _,trivial⟩ (Nat.zero_le _) rfl (ey _ _))) ?_
 refine aC.bx (aj.to (l:=[(3,.pt (aF c) 0),(6,.cS 0 ((0,0,0):Nat × Nat × Nat).2.1 0 ((0,0,0):Nat × Nat × Nat).1 ((0,0,0):Nat × Nat × Nat).2.2),(8,.pt (eRot c p (menM c 0 c.aG.length) (menM c 1 c.aG.length) (menM c 2 c.aG.length)) 0),(9,.pt (gh (wk T T.length)) 0),(95,ah (c.aG.length:Nat)),(96,ah (((0,0,0):Nat × Nat × Nat).1:Nat))]) (hp:=[.cells (gh (owK c p T ((0,0,0):Nat × Nat × Nat).1)) 1 ((0,0,0):Nat × Nat × Nat).2.1]) 1 rfl ⟨rfl,rfl,rfl,rfl,cK em,rfl,trivial⟩ (Nat.zero_le _) rfl (ey _ _)) ?_
 refine aC.loop (fun x:Nat × Nat × Nat=>x.1≤c.aG.length∧(x.2.2=x.1∨x.2.2=x.1+1)) (fun x=>⟨bM [(3,.pt (aF c) 0),(6,.cS 0 x.2.1 0 x.1 x.2.2),(8,.pt (eRot c p (menM c 0 c.aG.length) (menM c 1 c.aG.length) (menM c 2 c.aG.length)) 0),(9,.pt (gh (wk T T.length)) 0),(95,ah (c.aG.length:Nat)),(96,ah (x.1:Nat))],[.cells (gh (owK c p T x.1)) 1 x.2.1],bw.none,false,0⟩) (fun x=>c.aG.length - x.1) ?_ (0,0,0) ⟨Nat.zero_le _,.inl rfl⟩
 rintro ⟨k,v,cc⟩ ⟨hk,hcap⟩
 dsimp only at hk hcap
 show aC _ _ _ _ ⟨bM [(3,.pt (aF c) 0),(6,.cS 0 ((k,v,cc):Nat × Nat × Nat).2.1 0 ((k,v,cc):Nat × Nat × Nat).1 ((k,v,cc):Nat × Nat × Nat).2.2),(8,.pt (eRot c p (menM c 0 c.aG.length) (menM c 1 c.aG.length) (menM c 2 c.aG.length)) 0),(9,.pt (gh (wk T T.length)) 0),(95,ah (c.aG.length:Nat)),(96,ah (((k,v,cc):Nat × Nat × Nat).1:Nat))],[.cells (gh (owK c p T ((k,v,cc):Nat × Nat × Nat).1)) 1 ((k,v,cc):Nat × Nat × Nat).2.1],bw.none,false,0⟩ _
 dsimp only
 by_cases hlt:k < c.aG.length
 ·have dl:decide ((k:Int) < (c.aG.length:Int))=true:=decide_eq_true (by omega)
  have b1:=cnT_le T k T.length
  have p1:=behind_c true c hg p hp (menM c 0 c.aG.length) (menM c 1 c.aG.length) (menM c 2 c.aG.length) k hlt (cnT T k T.length:Nat) ⟨by omega,by omega⟩
  have hat:=Hl (wk_at (T:=T) (k:=T.length) (m:=k) (by omega))
  have hst:=owK_succ c p T k
  have hgl:(gh (owK c p T k)).length=k * 1:=by rw [List.length_map,owK_len];omega
  generalize bhV c p k (cnT T k T.length:Nat)=z at *
  generalize cnT T k T.length=y at *
  refine aa (mu:=fun t=>Nat.beq t 107) ?_
  repeat' (first |((with_reducible show RM.wpOp _ _ (.load _ _) _ _ _);refine RM.LQ rfl rfl hat ?_) |(refine ⟨_,_,.inl ⟨rfl,rfl⟩,p1,?_⟩) |((with_reducible show RM.wpOp _ _ (.call _) _ _ _);refine RM.uS (cs:=gh (owK c p T k)) (n:=k) (els:=[eI z]) rfl rfl rfl rfl rfl (fun el hel=>by rw [List.mem_singleton.1 hel];rfl) rfl rfl hgl hcap (by simp only [List.length_singleton];omega) (fun v' c' hc'=>?_)) |refine u1 ?_ |refine u2 ?_ |fail)
  exact ⟨(k+1,v',c'),⟨hlt,hc'⟩,(by dsimp only;omega),aj.to (l:=[(3,.pt (aF c) 0),(6,.cS 0 ((k+1,v',c'):Nat × Nat × Nat).2.1 0 ((k+1,v',c'):Nat × Nat × Nat).1 ((k+1,v',c'):Nat × Nat × Nat).2.2),(8,.pt (eRot c p (menM c 0 c.aG.length) (menM c 1 c.aG.length) (menM c 2 c.aG.length)) 0),(9,.pt (gh (wk T T.length)) 0),(95,ah (c.aG.length:Nat)),(96,ah (((k+1,v',c'):Nat × Nat × Nat).1:Nat))]) (hp:=[.cells (gh (owK c p T ((k+1,v',c'):Nat × Nat × Nat).1)) 1 ((k+1,v',c'):Nat × Nat × Nat).2.1]) 1 (by show _=[AB.cells (gh (owK c p T (k+1))) 1 v'];rw [hst];unfold gh;rw [List.map_append];rfl) ⟨rfl,rfl,rfl,rfl,rfl,cK (by simp),trivial⟩ (Nat.zero_le _) rfl (ey _ _)⟩
 ·have dl:decide ((k:Int) < (c.aG.length:Int))=false:=decide_eq_false (by omega)
  have hkn:k=c.aG.length:=by omega
  subst hkn
  refine aa (mu:=fun _=>false) ?_
  repeat' (first |refine u1 ?_ |refine u2 ?_ |fail)
  exact ⟨[_,_],⟨Hj rfl (owK_len c p T _),Fz.deep rfl,trivial⟩,rfl⟩
theorem powed_c (one:Bool) (c:ay) (h:c.Ok) (p:Pln) (T:List (List Int)) (fT:Bool) (hT:TLen T) (h8:∀ l ∈ T,l.length * 8≤140737488355328):Pu one 31 [.ag (aF c),.ag (ePln p),.sl (T.map eT) fT] (.tp [.sl (ints (owE c p T)) false,ah (tsE c p T)]):=by
 have eL:((T.map eT).length:Int)=T.length:=by simp
 unfold owE
 by_cases h0:cpE c p=0
 ·have o1:=enter_ok one c h p h0
  obtain ⟨hg,hp⟩:=cp_ok h0
  have d0:(!decide ((0:Int)=0))=false:=rfl
  by_cases h1:(T.length:Int)=p.turns
  ·have d1:(!decide (((T.map eT).length:Int)=p.turns))=false:=by rw [decide_eq_true (by omega)];rfl
   have hts:tsE c p T=tuE c p.away [] T:=by unfold tsE;rw [if_neg (fun hh=>hh h0),if_neg (fun hh=>hh h1)]
   rw [hts]
   refine af.body (fn:=Tryz.f31) rfl rfl rfl rfl ?_
   show aC TT TB one (.seq (.region _ _ _) (.seq (.region _ _ _) (.seq (.block _ _) (.seq (.region _ _ _) (.seq (.region _ _ _) (.seq (fs1b t31) t31b)))))) _ _
   refine RM.qK (mu:=fun _=>false) ?_
   repeat' (first |refine u1 ?_ |refine u2 ?_ |fail)
   refine RM.qK (mu:=fun _=>false) ?_
   repeat' (first |refine u1 ?_ |((with_reducible show ai _ _ _ _ _ _ _ _);refine af.call o1 rfl rfl ?_) |refine u2 ?_ |fail)
   refine aC.bx (aj.trans (aj.giveUp 0 (l:=[(2,.sl (T.map eT) fT),(3,.pt (aF c) 0),(4,.pt (ePln p) 0),(6,.fl (.slice none 0 0)),(7,ah 0),(8,.pt (eRot c p (menM c 0 c.aG.length) (menM c 1 c.aG.length) (menM c 2 c.aG.length)) 0)]) (hp:=[.gone]) rfl (Nat.zero_le _) rfl ⟨.same rfl,.same rfl,.same rfl,.same rfl,.same rfl,.ptr,trivial⟩ rfl rfl) (aj.to (l:=[(2,.sl (T.map eT) fT),(3,.pt (aF c) 0),(4,.pt (ePln p) 0),(6,.fl (.slice none 0 0)),(7,ah 0),(8,.pt (eRot c p (menM c 0 c.aG.length) (menM c 1 c.aG.length) (menM c 2 c.aG.length)) 0)]) (hp:=[]) 0 rfl ⟨rfl,rfl,rfl,rfl,rfl,rfl,trivial⟩ (Nat.zero_le _) rfl rfl)) ?_
   refine RM.qK (mu:=fun _=>false) ?_
   repeat' (first |refine u1 ?_ |refine u2 ?_ |fail)
   refine RM.qK (mu:=fun _=>false) ?_
   repeat' (first |refine u1 ?_ |refine u2 ?_ |fail)
   refine RM.qK (mu:=fun _=>false) ?_
   repeat' (first |refine u1 ?_ |refine u2 ?_ |fail)
   refine aC.bx (aj.to (l:=[(2,.sl (T.map eT) fT),(3,.pt (aF c) 0),(4,.pt (ePln p) 0),(6,.fl (.slice none 0 0)),(7,ah 0),(8,.pt (eRot c p (menM c 0 c.aG.length) (menM c 1 c.aG.length) (menM c 2 c.aG.length)) 0),(9,.ptr 0 0 0),(10,ah 0)]) (hp:=[.cells (gh (wk T 0)) 0 0]) 1 rfl ⟨rfl,rfl,rfl,rfl,rfl,rfl,rfl,rfl,trivial⟩ (Nat.zero_le _) rfl (one_inb _)) ?_
   by_cases h2:tuE c p.away [] T=0
   ·rw [if_pos h2,h2]
    exact RM.cutAtP ⟨bM [(2,.sl (T.map eT) fT),(3,.pt (aF c) 0),(4,.pt (ePln p) 0),(6,.fl (.slice none 0 0)),(7,ah 0),(8,.pt (eRot c p (menM c 0 c.aG.length) (menM c 1 c.aG.length) (menM c 2 c.aG.length)) 0),(9,.ptr 0 0 0)],[.cells (gh (wk T T.length)) 0 0],bw.none,false,0⟩ (tuE c p.away [] T=0) (owed_loop one c hg p hp T fT hT h8 h1 fun hh=>absurd h2 hh) fun _=>owed_end one c hg p hp T fT h1
   ·rw [if_neg h2]
    exact RM.cutAtP ⟨bM [(2,.sl (T.map eT) fT),(3,.pt (aF c) 0),(4,.pt (ePln p) 0),(6,.fl (.slice none 0 0)),(7,ah 0),(8,.pt (eRot c p (menM c 0 c.aG.length) (menM c 1 c.aG.length) (menM c 2 c.aG.length)) 0),(9,.ptr 0 0 0)],[.cells (gh (wk T T.length)) 0 0],bw.none,false,0⟩ (tuE c p.away [] T=0) (owed_loop one c hg p hp T fT hT h8 h1 fun _ s h6 h7=>ret_nil h6 h7) fun hh=>absurd hh h2
  ·have d1:(!decide (((T.map eT).length:Int)=p.turns))=true:=by rw [decide_eq_false (by omega)];rfl
   have hts:tsE c p T=3:=by unfold tsE;rw [if_neg (fun hh=>hh h0),if_pos h1]
   rw [hts,if_neg (by decide)]
   refine af.body (fn:=Tryz.f31) rfl rfl rfl rfl ?_
   show aC TT TB one (.seq (.region _ _ _) (.seq (.region _ _ _) (.seq (.block _ _) (.seq (.region _ _ _) (.seq (.region _ _ _) (.seq (fs1b t31) t31b)))))) _ _
   refine RM.qK (mu:=fun _=>false) ?_
   repeat' (first |refine u1 ?_ |refine u2 ?_ |fail)
   refine RM.qK (mu:=fun _=>false) ?_
   repeat' (first |refine u1 ?_ |((with_reducible show ai _ _ _ _ _ _ _ _);refine af.call o1 rfl rfl ?_) |refine u2 ?_ |fail)
   refine RM.qK (mu:=fun _=>false) ?_
   repeat' (first |refine u1 ?_ |refine u2 ?_ |fail)
   exact ⟨[_,_],⟨Fz.nil,Fz.deep rfl,trivial⟩,rfl⟩
 ·have o1:=enter_err one c h p h0
  have d0:(!decide (cpE c p=0))=true:=by rw [decide_eq_false h0];rfl
  have hts:tsE c p T=cpE c p:=by unfold tsE;rw [if_pos h0]
  rw [hts,if_neg h0]
  generalize cpE c p=e at *
  refine af.body (fn:=Tryz.f31) rfl rfl rfl rfl ?_
  show aC TT TB one (.seq (.region _ _ _) (.seq (.region _ _ _) (.seq (.block _ _) (.seq (.region _ _ _) (.seq (.region _ _ _) (.seq (fs1b t31) t31b)))))) _ _
  refine RM.qK (mu:=fun _=>false) ?_
  repeat' (first |refine u1 ?_ |refine u2 ?_ |fail)
  refine RM.qK (mu:=fun _=>false) ?_
  repeat' (first |refine u1 ?_ |((with_reducible show ai _ _ _ _ _ _ _ _);refine af.call o1 rfl rfl ?_) |refine u2 ?_ |fail)
  refine RM.qK (mu:=fun _=>false) ?_
  repeat' (first |refine u1 ?_ |refine u2 ?_ |fail)
  exact ⟨[_,_],⟨Fz.nil,Fz.deep rfl,trivial⟩,rfl⟩
end Go.Proofs.YtlpmfgmldmdggaaGreat
open Go Go.RM
namespace Go.Proofs.YtlpmfgmldmdggaaGreat
set_option maxRecDepth 100000
set_option maxHeartbeats 4000000
theorem owE_len (c:ay) (p:Pln) (T:List (List Int)):(owE c p T).length≤5:=by
 unfold owE
 split
 ·rename_i h
  obtain ⟨h1,_,_⟩:=ts_ok h
  obtain ⟨hg,_⟩:=cp_ok h1
  rw [owK_len]
  exact hg.aG.2
 ·exact Nat.zero_le _
theorem owedL_c (c:ay) (h:c.Ok) (p:Pln) (T:List (List Int)) (fT:Bool) (hT:TLen T) (h8:∀ l ∈ T,l.length * 8≤140737488355328):Pu false 5 [.ag (aF c),.ag (ePln p),.sl (T.map eT) fT] (BB true):=by
 have o1:=checkplan_c true c h p
 have o2:=rcheckplan_c true c h p
 have o3:=powed_c false c h p T fT hT h8
 have o4:=rowed_c false c h p T fT hT
 have hlen:=owE_len c p T
 have o5:=zl false (owE c p T) false false (by simp [maxLen];omega)
 have o5':=zl true (owE c p T) false false (by simp [maxLen];omega)
 have aw:=KY false
 have aw':=KY true
 generalize owE c p T=A at *
 generalize tsE c p T=e at *
 generalize cpE c p=b at *
 have d1:(!decide (b=b))=false:=by simp
 have d2:decide (e=e)=true:=by simp
 refine af.body (fn:=Tryz.f5) rfl rfl rfl rfl ?_
 refine aa (mu:=fun _=>false) ?_
 repeat' (first |refine u1 ?_ |((with_reducible show ai _ _ _ _ _ _ _ _);refine af.call o3 rfl rfl ?_) |((with_reducible show ai _ _ _ _ _ _ _ _);refine af.call o4 rfl rfl ?_) |((with_reducible show ai _ _ _ _ _ _ _ _);refine af.call o5 rfl rfl ?_) |((with_reducible show ai _ _ _ _ _ _ _ _);refine af.call aw rfl rfl ?_) |(refine ⟨_,_,.inl ⟨rfl,rfl⟩,o1,?_⟩) |(refine ⟨_,_,.inl ⟨rfl,rfl⟩,o2,?_⟩) |(refine ⟨_,_,.inl ⟨rfl,rfl⟩,o5',?_⟩) |(refine ⟨_,_,.inl ⟨rfl,rfl⟩,aw',?_⟩) |refine u2 ?_ |fail)
 exact ⟨[_],⟨Fz.deep rfl,trivial⟩,rfl⟩
end Go.Proofs.YtlpmfgmldmdggaaGreat
namespace Go.RM
open Go
section
variable {P : Program} {w : World} {D : Type} {enc : TypeId × Value → D} {base : Nat} {spare : Nat → Bool} {held : Bool}
def LkP (w:World) (m:Nat) (Φ:List AV→Prop) (cs:List Value):Prop:=∀ (γ:Gm) (H:Hp),LS γ H w→∃ γ' H' us avs,LE γ H γ' H'∧LS γ' H' w∧us.length=cs.length∧bP γ' us cs∧rY H'.get DS avs us∧Φ avs∧avs.length=m
theorem LkP.list {m:Nat} {Φ:List AV→Prop}:∀ {csl:List (List Value)},(∀ cs ∈ csl,LkP w m Φ cs∧cs.length=m)→∀ (γ:Gm) (H:Hp),LS γ H w→∃ (γ':Gm) (H':Hp) (us:List Value) (els:List (List AV)),LE γ H γ' H'∧LS γ' H' w∧us.length=csl.flatten.length∧bP γ' us csl.flatten∧rY H'.get DS els.flatten us ∧
  els.length=csl.length∧(∀ el ∈ els,Φ el∧el.length=m)
 | [],_,γ,H,h=>⟨γ,H,[],[],.refl,h,rfl,bP.nil γ,⟨rfl,fun i a u x=>by cases x⟩,rfl,fun el he=>by cases he⟩
 | cs :: csl,hl,γ,H,h=>by
  obtain ⟨γ1,H1,us1,av1,e1,h1,l1,v1,d1,t1,c1⟩:=(hl cs (by simp)).1 γ H h
  obtain ⟨γ2,H2,us2,els,e2,h2,l2,v2,d2,t2,c2⟩:=LkP.list (fun c hc=>hl c (List.mem_cons_of_mem _ hc)) γ1 H1 h1
  refine ⟨γ2,H2,us1++us2,av1 :: els,e1.trans e2,h2,by simp [l1,l2],?_,?_,by simp [t2],fun el he=>?_⟩
  ·rw [List.flatten_cons];exact (v1.mono e2.le).append v2
  ·rw [List.flatten_cons];exact (e2.Kl h1.wf d1).append d2
  ·rcases List.mem_cons.1 he with rfl|he
   ·exact ⟨t1,c1⟩
   ·exact c2 el he
theorem LkP.slice {t e:TypeId} (hu:P.underlying t=some (.slice e)) {m:Nat} (hsz:P.cellsOf e=m) (hm:1≤m) {Φ:List AV→Prop} {fuel:Nat} {cs:List Value} {x:DataW D × List MemPlace} (hx:DataW.trod enc P w base spare held fuel t cs=some x)
  (hel0:∀ (f:Nat) (ci:List Value) (y:DataW D × List MemPlace),DataW.trod enc P w base spare held f e ci=some y→(∃ ds sp,x.1=.slice ds sp∧y.1 ∈ ds)→LkP w m Φ ci∧ci.length=m) :
  LkP w 1 (fun avs=>∃ els,avs=[.sl els false]∧els.length≤maxLen∧(els.length=0∨∃ ds sp,x.1=.slice ds sp∧els.length=ds.length)∧∀ el ∈ els,Φ el) cs∧cs.length=1:=by
 rcases DataW.trod_slice hu hx with ⟨rfl,_⟩|⟨a,len,cap,elems,rest,n,_,rfl,hx2,_,hlc,hcm,hel,hat,_⟩
 ·refine ⟨fun γ H hs=>⟨γ,H,[.slice none 0 0],[.sl [] false],.refl,hs,rfl,bP.cons (.flat rfl) (bP.nil γ),⟨rfl,fun i a u x y=>?_⟩,⟨[],rfl,Nat.zero_le _,.inl rfl,fun el he=>by cases he⟩,rfl⟩,rfl⟩
  cases i with
  | zero=>cases x;cases y;exact .nil
  | succ i=>simp at x
 ·have hx1:x.1=.slice (elems.map (·.1)) (rest.map (·.1)):=(Prod.ext_iff.1 hx2).1
  let csl:List (List Value):=(List.range len).map fun i=>(w.cells? base (a.add (i * P.cellsOf e)) (P.cellsOf e)).getD []
  have hlen:csl.length=len:=by simp [csl]
  have hcs:∀ i,i < len→∃ ci y,csl[i]?=some ci∧w.cells? base (a.add (i * P.cellsOf e)) (P.cellsOf e)=some ci∧DataW.trod enc P w base spare held n e ci=some y∧y.1 ∈ elems.map (·.1):=by
   intro i hi
   have h1:=hat i hi
   have h2:elems[i]?=some (elems[i]'(by omega)):=List.getElem?_eq_getElem _
   rw [h2,Option.bind_eq_some_iff] at h1
   obtain ⟨ci,c1,c2⟩:=h1
   exact ⟨ci,_,by simp [csl,hi,c1],c1,c2,List.mem_map.2 ⟨_,List.getElem_mem _,rfl⟩⟩
  have ha9:∀ ci ∈ csl,LkP w m Φ ci∧ci.length=m:=by
   intro ci hci
   obtain ⟨i,hi,rfl⟩:=List.getElem_of_mem hci
   obtain ⟨cj,y,q1,q2,q3,q4⟩:=hcs i (by omega)
   rw [List.getElem?_eq_getElem hi] at q1
   cases q1
   exact hel0 n _ y q3 ⟨_,_,hx1,q4⟩
  refine ⟨fun γ H hs=>?_,rfl⟩
  obtain ⟨γ1,H1,us,els,e1,h1,l1,v1,d1,t1,c1⟩:=LkP.list ha9 γ H hs
  have hne:els.length=len:=t1.trans hlen
  have ht9:∃ els',[AV.sl els false]=[AV.sl els' false]∧els'.length≤maxLen∧(els'.length=0∨∃ ds sp,x.1=.slice ds sp∧els'.length=ds.length)∧∀ el ∈ els',Φ el:=⟨els,rfl,by rw [hne];omega,.inr ⟨_,_,hx1,by rw [hne,List.length_map,hel]⟩,fun el he=>(c1 el he).1⟩
  have hf9:∀ (u:Value) (γ':Gm) (H':Hp),LE γ1 H1 γ' H'→LS γ' H' w→VR γ' u (.slice (some a) len cap)→DR H'.get DS (.sl els false) u →
    ∃ γ' H' us avs,LE γ H γ' H'∧LS γ' H' w∧us.length=[Value.slice (some a) len cap].length∧bP γ' us [.slice (some a) len cap]∧rY H'.get DS avs us∧(∃ els',avs=[AV.sl els' false]∧els'.length≤maxLen∧(els'.length=0∨∃ ds sp,x.1=.slice ds sp∧els'.length=ds.length)∧∀ el ∈ els',Φ el)∧avs.length=1:=by
   intro u γ' H' he hs' hv hd
   refine ⟨γ',H',[u],[.sl els false],e1.trans he,hs',rfl,bP.cons hv (bP.nil γ'),⟨rfl,fun i a w x y=>?_⟩,ht9,rfl⟩
   cases i with
   | zero=>cases x;cases y;exact hd
   | succ i=>simp at x
  have hfl:∀ el ∈ csl,el.length=m:=fun el he=>(ha9 el he).2
  have hels:∀ el ∈ els,el.length=m:=fun el he=>(c1 el he).2
  by_cases hl0:len=0
  ·have hg:∀ k a,(H1.push (.cells us false 0)).get k=some a→(k < H1.n∧H1.get k=some a)∨(k=H1.n∧a=.cells us false 0):=by
    intro k a hk
    rw [Hp.eM] at hk
    split at hk
    ·rename_i hkn;cases hk;exact .inr ⟨hkn,rfl⟩
    ·exact .inl ⟨h1.wf.lt hk,hk⟩
   have hus:us=[]:=List.length_eq_zero_iff.1 (by rw [l1,ez hfl,hlen,hl0,Nat.zero_mul])
   subst hl0
   refine hf9 (.slice (some ⟨H1.n,0,none⟩) 0 2) γ1 (H1.push (.cells us false 0)) ⟨Gm.Le.refl γ1,Nat.le_succ _,fun k hk=>bZ hk⟩ ⟨⟨fun k b o a hk hl=>?_,fun k k' b o o' a a' hk ho=>?_,h1.hr.lt,h1.hr.base,h1.hr.gl⟩,(cQ.push H1 _).wf h1.wf,fun k hk=>h1.fr k (by have:H1.n+1≤k:=hk;omega),fun k a hk=>?_⟩ (.cH (by omega) (fun h=>by omega) (by omega)) ?_
   ·rcases hg k a hk with ⟨_,q⟩|⟨rfl,_⟩
    ·exact h1.hr.gC k b o a q hl
    ·rw [h1.fr _ (Nat.le_refl _)] at hl;cases hl
   ·rcases hg k a hk with ⟨_,q⟩|⟨_,rfl⟩
    ·rw [(h1.un k a q).1] at ho;cases ho
    ·cases ho
   ·rcases hg k a hk with ⟨_,q⟩|⟨_,rfl⟩
    ·exact h1.un k a q
    ·exact ⟨rfl,by simp⟩
   ·exact .row (es:=m) (own:=false) (e:=0) jb (fun h=>h) hels hne (by
     have hd:=d1
     rw [hus] at hd ⊢
     exact ⟨hd.1,fun i a u x y=>by cases y⟩) (fun h=>Bool.noConfusion h)
  ·have hpos:0 < len:=Nat.pos_of_ne_zero hl0
   have hc9:∀ i ci,csl[i]?=some ci→∀ j,j < m→(∀ v,ci[j]?=some v→w.cell? ((a.add (i * m)).add j)=some v):=by
    intro i ci hi j hj v hv
    obtain ⟨cj,y,q1,q2,q3,_⟩:=hcs i (by rw [←hlen];exact (List.getElem?_eq_some_iff.1 hi).1)
    rw [q1] at hi;cases hi
    rw [hsz] at q2
    obtain ⟨_,r2⟩:=Gk q2
    rw [r2 j hj];exact hv
   obtain ⟨c0,y0,z1,z2,z3,_⟩:=hcs 0 hpos
   have hz0:c0.length=m:=hfl c0 (List.mem_of_getElem? z1)
   have hv0:c0[0]?=some (c0[0]'(by omega)):=List.getElem?_eq_getElem _
   obtain ⟨sp,cs',e',fz,hb,_⟩:=yQ (hc9 0 c0 z1 0 hm _ hv0)
   rw [pP,pP] at hb
   have hq9:a.spot=none:=by
    have:((a.add (0 * m)).add 0).spot=none:=sp
    simpa [Addr.add] using this
   have hcr:dK γ1 us cs' a.off:=by
    intro j v hj
    have hjl:j < len * m:=by rw [←hlen,←ez hfl,←l1];exact (List.getElem?_eq_some_iff.1 hj).1
    obtain ⟨v',q1,q2⟩:=v1.get hj
    have hi:j / m < len:=(Nat.div_lt_iff_lt_mul hm).2 hjl
    have hmm:j % m < m:=Nat.mod_lt _ hm
    obtain ⟨ci,y,p1,p2,p3,_⟩:=hcs _ hi
    have hd9:j / m * m+j % m=j:=by rw [Nat.mul_comm];exact Nat.div_add_mod j m
    have hf:=fj hfl _ ci (j % m) p1 hmm
    rw [hd9,q1] at hf
    obtain ⟨_,c2,e2,f2,b1,b2⟩:=yQ (hc9 _ ci p1 _ hmm v' hf.symm)
    rw [pP,pP,hb] at b1
    cases b1
    rw [DT,DT,Nat.add_assoc,hd9] at b2
    exact ⟨v',b2,q2⟩
   obtain ⟨γ2,_,e2,h2,hl9⟩:=h1.row hb hcr
   refine hf9 (.slice (some ⟨H1.n,0,none⟩) len (len+2)) γ2 _ e2 h2 ?_ ?_
   ·have:=VR.slice (γ:=γ2) (k:=H1.n) (o:=0) (n:=len) (c:=len+2) (c':=cap) hl9 hlc (fun h=>by omega) (fun h=>by omega) (fun h=>by omega)
    have ha:(⟨a.block,a.off+0,none⟩:Addr)=a:=by cases a;simp at hq9;subst hq9;rfl
    rw [ha] at this
    exact this
   ·exact .row (es:=m) jb (fun h=>h) hels hne (e2.Kl h1.wf d1) (fun h=>Bool.noConfusion h)
theorem weights_all {e:TypeId}:∀ {l:List (DataW D)} {d:DataW D} {n:Nat},d ∈ l→n ∈ d.weights P e→n ∈ DataW.weightsAll P e l
 | a :: l,d,n,hd,hn=>by
  simp only [DataW.weightsAll,List.mem_append]
  rcases List.mem_cons.1 hd with rfl|hd
  ·exact .inl hn
  ·exact .inr (weights_all hd hn)
theorem rows_lk {d:Nat} {t e f:TypeId} (hu:P.underlying t=some (.slice e)) (hu2:P.underlying e=some (.slice f)) (hc1:P.cellsOf e=1) (hc2:P.cellsOf f=1) (hf:ld P d (.int .i64) f=true) {fuel:Nat} {v:Value} {x:DataW D × List MemPlace}
  (hx:DataW.trod enc P w base spare held fuel t [v]=some x) (hw:∀ n ∈ x.1.weights P t,n≤reachBytes) :
  LkP w 1 (fun avs=>∃ T:List (List (List AV)),avs=[.sl (T.map fun l=>[.sl l false]) false]∧T.length≤maxLen∧∀ l ∈ T,(l.length≤maxLen∧l.length * P.bytesOf f≤reachBytes)∧∀ el ∈ l,TV (.int .i64) el) [v]:=by
 have h1:=LkP.slice hu hc1 (Nat.le_refl 1) (Φ:=fun avs=>∃ l:List (List AV),avs=[.sl l false]∧(l.length≤maxLen∧l.length * P.bytesOf f≤reachBytes)∧∀ el ∈ l,TV (.int .i64) el) hx fun fu ci y hy ⟨ds,sp,hxs,hyd⟩=>by
  have h2:=LkP.slice hu2 hc2 (Nat.le_refl 1) (Φ:=TV (.int .i64)) hy fun fu2 cj z hz _=>lk P d (.int .i64) f hf fu2 cj z hz
  refine ⟨fun γ H hs=>?_,h2.2⟩
  obtain ⟨γ',H',us,avs,q1,q2,q3,q4,q5,⟨els,rfl,p1,p2,p3⟩,q7⟩:=h2.1 γ H hs
  refine ⟨γ',H',us,_,q1,q2,q3,q4,q5,⟨els,rfl,⟨p1,?_⟩,p3⟩,q7⟩
  rcases p2 with h0|⟨ds2,sp2,hy1,hl⟩
  ·rw [h0,Nat.zero_mul]
   exact Nat.zero_le _
  ·have hin:(ds2.length+sp2.length) * P.bytesOf f ∈ x.1.weights P t:=by
    rw [hxs]
    have hwy:(ds2.length+sp2.length) * P.bytesOf f ∈ y.1.weights P e:=by
     rw [hy1]
     simp only [DataW.weights,hu2,List.mem_cons,true_or]
    simp only [DataW.weights,hu,List.mem_cons,List.mem_append]
    exact .inr (.inl (weights_all hyd hwy))
   have:=hw _ hin
   rw [hl]
   exact Nat.le_trans (Nat.mul_le_mul_right _ (Nat.le_add_right _ _)) this
 intro γ H hs
 obtain ⟨γ',H',us,avs,q1,q2,q3,q4,q5,⟨els,rfl,p1,p2,p3⟩,q7⟩:=h1.1 γ H hs
 obtain ⟨T,hT,rfl⟩:∃ T:List (List (List AV)),(∀ l ∈ T,(l.length≤maxLen∧l.length * P.bytesOf f≤reachBytes)∧∀ el ∈ l,TV (.int .i64) el)∧els=T.map fun l=>[.sl l false]:=by
  clear q5 q7 p1 p2
  induction els with
  | nil=>exact ⟨[],⟨(fun l hl=>nomatch hl),rfl⟩⟩
  | cons el els ih =>
   obtain ⟨l,rfl,h2,h3⟩:=p3 el (by simp)
   obtain ⟨T,hT,rfl⟩:=ih fun el hel=>p3 el (List.mem_cons_of_mem _ hel)
   refine ⟨l :: T,⟨fun k hk=>?_,rfl⟩⟩
   rcases List.mem_cons.1 hk with rfl|hk
   ·exact ⟨h2,h3⟩
   ·exact hT k hk
 exact ⟨γ',H',us,_,q1,q2,q3,q4,q5,⟨T,rfl,by rw [List.length_map] at p1;exact p1,hT⟩,q7⟩
theorem rows_arg {d:Nat} {r:Reach} {b:Nat} {t e f:TypeId} (hu:P.underlying t=some (.slice e)) (hu2:P.underlying e=some (.slice f)) (hc1:P.cellsOf e=1) (hc2:P.cellsOf f=1) (hf:ld P d (.int .i64) f=true) {v:Value} {x:DataW D} {q:List MemPlace}
  (hok:Value.okWide P w r b t v) (ht:DataW.Trod enc P w base spare held t v x q) (hw:∀ n ∈ x.weights P t,n≤reachBytes) :
  LkP w 1 (fun avs=>∃ T:List (List (List AV)),avs=[.sl (T.map fun l=>[.sl l false]) false]∧T.length≤maxLen∧∀ l ∈ T,(l.length≤maxLen∧l.length * P.bytesOf f≤reachBytes)∧∀ el ∈ l,TV (.int .i64) el) [v]:=by
 obtain ⟨fuel,ht⟩:=ht
 unfold Value.okWide at hok
 rw [hu] at hok
 simp only [Cell.okWide,hu,Cell.ok] at hok
 cases v <;> simp at hok
 exact rows_lk hu hu2 hc1 hc2 hf ht hw
theorem args_three {d:Nat} {r:Reach} {b:Nat} {s0 s1:Sh} {t0 t1 t2:TypeId} {Φ:List AV→Prop} {vs:List Value} {ds:List (DataW D)} {ps:List MemPlace} (h0:ld P d s0 t0=true) (h1:ld P d s1 t1=true)
  (ht:DataW.TrodAll enc P w base spare held [t0,t1,t2] vs ds ps) (hok:∀ (j:Nat) t v,[t0,t1,t2][j]?=some t→vs[j]?=some v→Value.okWide P w r b t v)
  (h2:∀ (v:Value) (x:DataW D) (q:List MemPlace),vs[2]?=some v→ds[2]?=some x→DataW.Trod enc P w base spare held t2 v x q→LkP w 1 Φ [v]) (γ:Gm) (H:Hp) (h:LS γ H w) :
  ∃ γ' H' us az,LE γ H γ' H'∧LS γ' H' w∧bP γ' us vs∧rY H'.get DS az us∧∃ a0 a1 a2,az=[a0,a1,a2]∧(∃ avs,TV s0 avs∧a0=uo s0 avs)∧(∃ avs,TV s1 avs∧a1=uo s1 avs)∧Φ [a2]:=by
 match vs,ds,ht with
 | [v0,v1,v2],[x0,x1,x2],ht =>
  obtain ⟨p0,q0,k0,ht,_⟩:=ht
  obtain ⟨p1,q1,k1,ht,_⟩:=ht
  obtain ⟨p2,q2,k2,_,_⟩:=ht
  obtain ⟨γ1,H1,u0,a0,e1,l1,r1,d1,t1'⟩:=HW h0 (hok 0 t0 v0 rfl rfl) k0 γ H h
  obtain ⟨γ2,H2,u1,a1,e2,l2,r2,d2,t2'⟩:=HW h1 (hok 1 t1 v1 rfl rfl) k1 γ1 H1 l1
  obtain ⟨γ3,H3,us,avs,e3,l3,n3,r3,d3,f3,c3⟩:=h2 v2 x2 _ rfl rfl k2 γ2 H2 l2
  match us,n3,avs,c3 with
  | [u2],_,[a2],_ =>
   refine ⟨γ3,H3,[u0,u1,u2],[a0,a1,a2],(e1.trans e2).trans e3,l3,bP.cons (r1.mono (e2.trans e3).le) (bP.cons (r2.mono e3.le) r3),⟨rfl,fun i a u x y=>?_⟩,a0,a1,a2,rfl,t1',t2',f3⟩
   match i,x,y with
   | 0,x,y=>cases x;cases y;exact (e2.trans e3).dr l1.wf d1
   | 1,x,y=>cases x;cases y;exact e3.dr l2.wf d2
   | 2,x,y=>exact d3.2 0 a u x y
 | [_],_ :: _,⟨_,_,_,h,_⟩=>simp [DataW.TrodAll] at h
 | [_,_],_ :: _ :: _,⟨_,_,_,⟨_,_,_,h,_⟩,_⟩=>simp [DataW.TrodAll] at h
 | _ :: _ :: _ :: _ :: _,_ :: _ :: _ :: _,⟨_,_,_,⟨_,_,_,⟨_,_,_,h,_⟩,_⟩,_⟩=>simp [DataW.TrodAll] at h
end
section
variable {T : bh} {tab : List XE} {one : Bool}
open Go.RowKit in
theorem pure_callsG (hT:bf T) (hm:T.P.follows .mixedOrders=true) (ht:∀ e ∈ tab,gA T e) {f:FuncId} {v:Value} (hf:aP v=true) {args:Array Value} {w:World} {Q:List AV→Prop}
  (hargs:∀ γ H,LS γ H w→∃ γ' H' us az,LE γ H γ' H'∧LS γ' H' w∧bP γ' us args.toList∧rY H'.get DS az us∧Q az) (hp:∀ avs,Q avs→af T tab one (.fn f [] []) avs (.fl v))
  (hgl:∀ x ∈ GL,x.1 < w.heap.size∧HE (w.heap[x.1]?) x.2:=by intro x hx;exact absurd hx (by simp [GL])) :
  Calls T.P f args w fun e w'=>e=.returned v∧Below w.heap.size w w':=by
 obtain ⟨γ,H,us,avs,e,q,v1,d1,t1⟩:=hargs _ _ (LS.empty w hgl)
 obtain ⟨goal,hg,m,L,h1,_,h3⟩:=(hp avs t1).2 DS H (.func (.func f) #[] #[]) us q.wf (fun k h=>h.elim) (.fn rfl rfl (fun i x u h=>by cases h) (fun i x u h=>by cases h)) d1
 have hg9:goal=.fn f us:=by
  have:bQ (.func (.func f) #[] #[]) us=some (.fn f us):=by simp [bQ]
  rw [this] at hg
  exact (Option.some.inj hg).symm
 subst hg9
 have hS:aX T (RX T tab m) m:=Bq ht (we hT hm ht m)
 have hN:∃ N,∀ r ∈ L,r.hp.n≤N:=by
  clear h3 h1
  rename_i hone
  clear hone
  induction L with
  | nil=>exact ⟨0,fun r hr=>by cases hr⟩
  | cons a l ih =>
   obtain ⟨N,hN⟩:=ih
   refine ⟨max a.hp.n N,fun r hr=>?_⟩
   rcases List.mem_cons.1 hr with rfl|hr
   ·omega
   ·have:=hN r hr;omega
 obtain ⟨N,hN⟩:=hN
 have hB:γ.B=w.heap.size:=e.le.B
 have hc:=(hS.call f us H L h1).2 γ w args.toList N q.wf q.hr (fun k hk _=>q.fr k hk) hN v1
 refine callsIn_wide.1 (CallsIn.mono (F:=FW none) hc fun en w' hR=>?_)
 obtain ⟨x,hp',x',γ1,hmem,rfl,hv,hst⟩:=hR
 obtain ⟨y,H',hy,_,_,_,_,hdr⟩:=h3 _ hmem
 cases hy
 have hx:x=v:=by
  cases hdr with
  | fl h=>rfl
 subst hx
 refine ⟨by rw [hv.bl hf],?_⟩
 rw [←hB]
 exact hst.gF.below q.hr
end
end Go.RM
