/-
  Contracts of the program's functions and of the document's. Lemmas alone; their conditions stand in them.
-/
import Derived.Test.YtalcbebjpgfnfaaGreatA3
import Derived.Test.YtalcbebjpgfnfaaGreatK13
open Go Go.RM
namespace Go.Proofs.YtalcbebjpgfnfaaGreat.St
set_option maxRecDepth 100000
set_option maxHeartbeats 4000000
theorem IP {s:aB} {l:List Count} (h:dY s l=0):s.aj.length≤8:=by
 unfold dY at h
 by_cases h1:(ir s).2.2=0
 ·cases hb:cG s with
  | true=>rw [E7 hb] at h1;exact absurd h1 (by decide)
  | false=>exact (xu hb).2.2
 ·rw [if_pos h1] at h;exact absurd h h1
theorem M1 {s:aB} {l:List Count} (h:dY s l=0) (i:Int):gA 8 (ak i s.aj):=by
 have hg:=(ux h).1
 have h8:=IP h
 have h9:=fo hg.sizes
 have:=jP (k:=i) (cs:=s.aj) (fun c hc=>by have:=hg.aj c hc;omega)
 exact ⟨this.len,fun x hx=>by have:=this.Ka x hx;omega⟩
theorem gA.more {row:List Int} (h:gA 8 row) {d:Nat} (hd:d < 30) {n:Int} (hn:0≤n∧n≤300):gA 9 (row.set d (row.getD d 0+n)):=by
 have hg:=h.get hd
 refine ⟨by rw [List.length_set];exact h.len,fun x hx=>?_⟩
 rcases List.mem_or_eq_of_mem_set hx with hx|rfl
 ·have:=h.Ka x hx;omega
 ·omega
theorem eK.more {au:List Int} {k:Kind} {row:List Int} {t:aE} (h:eK au k row t) (hr:gA 8 row) {d:Nat} (hd:d < 30) {n:Int} (hn:0≤n∧n≤300):eK au k (row.set d (row.getD d 0+n)) t :=
 ⟨h.zD,h.au,hr.more hd hn,h.room,h.cJ,h.first,h.aR,h.ay⟩
abbrev tj (s:aB) (l:List Count) (i:Nat) (k:Kind):List aE:=(bu s.au k (ak i s.aj) (bp l i)).map Prod.fst
def bP (s:aB) (k:Kind) (row:List Int) (L:List aE) (d:Nat) (n:Int):Bool:=!L.any (eO s.au k (row.set d (row.getD d 0+n)) s.au.length)
theorem Be (one:Bool) (s:aB) (l:List Count) (h0:dY s l=0) (i:Nat) (hi:i < s.kinds.length) (d:Nat) (hd:d < s.au.length) :
  Pu one 57 [ah 0,ah 300,.fn 58 [] [.pt (aF s s.kinds[i] (ak i s.aj) (.sl ((bp l i).map aG) false)) 0,.pt [ah d] 0,.pt [.sl ((tj s l i s.kinds[i]).map aV) false] 0]]
   (ah (bs (fun n=>bP s s.kinds[i] (ak i s.aj) (tj s l i s.kinds[i]) d n) 0 301:Nat)):=by
 have hh:=uy h0 hi
 have hr8:=M1 h0 i
 have h30:=hh.row.len
 have h9:=fo hh.good.sizes
 have hget:=hr8.get (d:=d) (by omega)
 have hlen:(tj s l i s.kinds[i]).length≤maxLen:=by rw [List.length_map];have:=u0 hh;unfold maxLen;omega
 have hrun:∀ t ∈ tj s l i s.kinds[i],eK s.au s.kinds[i] (ak i s.aj) t:=fun t ht=>by
  obtain ⟨y,hy,rfl⟩:=List.mem_map.1 ht
  exact (uY hh hy).1.1
 have key:=Ff one 58 [] [.pt (aF s s.kinds[i] (ak i s.aj) (.sl ((bp l i).map aG) false)) 0,.pt [ah d] 0,.pt [.sl ((tj s l i s.kinds[i]).map aV) false] 0] rfl 0 301 (by omega) (by omega) (bP s s.kinds[i] (ak i s.aj) (tj s l i s.kinds[i]) d) fun n hn=>by
  rw [Int.zero_add]
  exact IM true d n h30 (by omega) (by omega) (fun t ht=>(hrun t ht).more hr8 (by omega) (by omega)) hlen
 simp only [Int.zero_add] at key
 exact key
end Go.Proofs.YtalcbebjpgfnfaaGreat.St
open Go Go.RM
namespace Go.Proofs.YtalcbebjpgfnfaaGreat.St
set_option maxRecDepth 100000
set_option maxHeartbeats 4000000
theorem Eb (one:Bool) (s:aB) (h:s.Ok) (l:List Count) (h0:dY s l=0) (i:Nat) (hi:i < s.kinds.length) (d:Nat) (hd:d < s.au.length) (he:bu s.au s.kinds[i] (ak i s.aj) (bp l i)=[]) :
  Pu one 14 [.ag (aO s),.sl (l.map aG) false,ah i,ah d] (.tp [ah 0,ah 9]):=by
 have em:((s.au.map eI).length:Int)=s.au.length:=by simp
 have hh:=uy h0 hi
 have hen:=xJ one s h l h0 i hi
 have h30:=hh.row.len
 have hkn:=Fg one hh
 have h9:=fo hh.good.sizes
 rw [if_pos he] at hkn
 have hou:=cX one 0 (((s.au.map eI).length:Int) - 1) [eI d] true rfl (Nat.le_of_ble_eq_true rfl)
 rw [show aM 0 (((s.au.map eI).length:Int) - 1) ([eI (d:Int)].map Ga)=false by rw [em];show aM 0 ((s.au.length:Int) - 1) [(d:Int)]=false;rw [dK,fm.2 (by omega)];rfl] at hou
 generalize ak i s.aj=row at *
 generalize s.kinds[i]=k at *
 refine af.body (fn:=Tryz.f14) rfl rfl rfl rfl ?_
 refine aa (mu:=fun _=>false) ?_
 repeat' (first |refine M0 h30 rfl rfl rfl rfl ?_ |refine Gy h30 rfl rfl ?_ |refine u1 ?_ |refine u2 ?_ |refine af.call hen rfl rfl ?_ |refine af.call hou rfl rfl ?_ |refine af.call hkn rfl (jk rfl) ?_ |fail)
 exact ⟨[_,_],⟨Fz.deep rfl,Fz.deep rfl,trivial⟩,rfl⟩
theorem GF (one:Bool) (s:aB) (h:s.Ok) (l:List Count) (h0:dY s l=0) (i:Nat) (hi:i < s.kinds.length) (d:Nat) (hd:d < s.au.length) (he:bu s.au s.kinds[i] (ak i s.aj) (bp l i) ≠ []) (r:Nat)
  (hr:bs (fun n=>bP s s.kinds[i] (ak i s.aj) (tj s l i s.kinds[i]) d n) 0 301=r) :
  Pu one 14 [.ag (aO s),.sl (l.map aG) false,ah i,ah d] (if 300 < r then .tp [ah 0,ah 9] else .tp [ah r,ah 0]):=by
 have em:((s.au.map eI).length:Int)=s.au.length:=by simp
 have hh:=uy h0 hi
 have hen:=xJ one s h l h0 i hi
 have h30:=hh.row.len
 have hkn:=Fg one hh
 have h9:=fo hh.good.sizes
 rw [if_neg he] at hkn
 have hw:=Kv one hh
 have hle:=Be one s l h0 i hi d hd
 rw [hr] at hle
 have hou:=cX one 0 (((s.au.map eI).length:Int) - 1) [eI d] true rfl (Nat.le_of_ble_eq_true rfl)
 rw [show aM 0 (((s.au.map eI).length:Int) - 1) ([eI (d:Int)].map Ga)=false by rw [em];show aM 0 ((s.au.length:Int) - 1) [(d:Int)]=false;rw [dK,fm.2 (by omega)];rfl] at hou
 clear hr he hh
 unfold tj at hle
 generalize (bu s.au s.kinds[i] (ak i s.aj) (bp l i)).map Prod.fst=L at *
 generalize ak i s.aj=row at *
 generalize s.kinds[i]=k at *
 have fin:∀ v,(if 300 < r then AV.tp [ah 0,ah 9] else .tp [ah r,ah 0])=v→Pu one 14 [.ag (aO s),.sl (l.map aG) false,ah i,ah d] v:=by
  intro v hv
  have hvd:v.deep=true:=by rw [←hv];split <;> rfl
  refine af.body (fn:=Tryz.f14) rfl rfl rfl hvd ?_
  refine RM.de (mu:=fun _=>false) ?_
  repeat' (first |refine u1 ?_ |refine u2 ?_ |fail)
  refine RM.de (mu:=fun _=>false) ?_
  repeat' (first |refine M0 (s:=s) (k:=k) (row:=row) h30 rfl rfl rfl rfl ?_ |refine u1 ?_ |refine u2 ?_ |refine af.call hen rfl rfl ?_ |fail)
  refine RM.de (mu:=fun _=>false) ?_
  repeat' (first |refine u1 ?_ |refine u2 ?_ |refine af.call hou rfl rfl ?_ |fail)
  refine RM.de (mu:=fun _=>false) ?_
  repeat' (first |refine Gy (s:=s) (k:=k) (row:=row) h30 rfl rfl ?_ |refine u1 ?_ |refine af.call hkn rfl (jk rfl) ?_ |fail)
  refine RM.de (mu:=fun _=>false) ?_
  repeat' (first |refine Gy (s:=s) (k:=k) (row:=row) h30 rfl rfl ?_ |refine u1 ?_ |refine u2 ?_ |refine af.call hw rfl (jk rfl) ?_ |fail)
  refine az.aK (ai.giveUp 0 (l:=[(7,.pt [ah d] 0),(10,.pt (aF s k row (.sl ((bp l i).map aG) false)) 0),(12,.ptr 1 0 0)]) (hp:=[.gone,.cells [.sl (L.map aV) false] 0 0]) rfl (Nat.le_refl _) (iJ (s:=s) (k:=k) (row:=row) (c:=.sl ((bp l i).map aG) false) rfl) ⟨.same rfl,.ptr,.same rfl,trivial⟩ rfl rfl) ?_
  refine az.aK (ai.giveUp 1 (l:=[(7,.pt [ah d] 0),(10,.pt (aF s k row (.sl ((bp l i).map aG) false)) 0),(12,.pt [.sl (L.map aV) false] 0)]) (hp:=[.gone,.gone]) rfl (Nat.zero_le _) rfl ⟨.same rfl,.same rfl,.ptr,trivial⟩ rfl rfl) ?_
  by_cases h3:300 < r
  ·rw [if_pos h3] at hv
   subst hv
   have d1:decide ((300:Int) < r)=true:=decide_eq_true (by omega)
   refine aa (mu:=fun _=>false) ?_
   repeat' (first |refine u1 ?_ |refine af.call hle rfl rfl ?_ |fail)
   exact ⟨[_,_],⟨Fz.deep rfl,Fz.deep rfl,trivial⟩,rfl⟩
  ·rw [if_neg h3] at hv
   subst hv
   have d1:decide ((300:Int) < r)=false:=decide_eq_false (by omega)
   refine aa (mu:=fun _=>false) ?_
   repeat' (first |refine u1 ?_ |refine af.call hle rfl rfl ?_ |fail)
   exact ⟨[_,_],⟨Fz.deep rfl,Fz.deep rfl,trivial⟩,rfl⟩
 exact fin _ rfl
end Go.Proofs.YtalcbebjpgfnfaaGreat.St
open Go Go.RM
namespace Go.Proofs.YtalcbebjpgfnfaaGreat.St
set_option maxRecDepth 100000
def gv (out:List aE) (t:aE):List aE:=if (out.all fun o=>!decide (o.aR=t.aR) || !decide (o.ay=t.ay))=true then out++[t] else out
def xQ (L:List aE):List aE:=L.foldl gv []
theorem yL {acc:List aE} {x t:aE} (h:t ∈ acc):t ∈ gv acc x:=by
 unfold gv
 split
 ·exact List.mem_append_left _ h
 ·exact h
theorem zN:∀ {L:List aE} {acc:List aE} {t:aE},t ∈ acc→t ∈ L.foldl gv acc
 | [],_,_,h=>h
 | _ :: L,_,_,h=>zN (L:=L) (yL h)
theorem zO:∀ {L:List aE} {acc:List aE} {t:aE},t ∈ L.foldl gv acc→t ∈ acc∨t ∈ L
 | [],_,_,h=>.inl h
 | x :: L,acc,t,h=>by
  rcases zO (L:=L) h with h|h
  ·unfold gv at h
   split at h
   ·rcases List.mem_append.1 h with h|h
    ·exact .inl h
    ·exact .inr (by rw [List.mem_singleton.1 h];exact List.mem_cons_self ..)
   ·exact .inl h
  ·exact .inr (List.mem_cons_of_mem _ h)
theorem u6:∀ {L:List aE} {acc:List aE},(∀ a ∈ acc,∀ b ∈ L,a.first≤b.first)→L.Pairwise (fun a b=>a.first≤b.first)→∀ u ∈ L,∃ t ∈ L.foldl gv acc,t.aR=u.aR∧t.ay=u.ay∧t.first≤u.first
 | [],_,_,_,u,hu=>by cases hu
 | x :: L,acc,hacc,hs,u,hu=>by
  rw [List.pairwise_cons] at hs
  have hx:∃ t ∈ gv acc x,t.aR=x.aR∧t.ay=x.ay∧t.first≤x.first:=by
   unfold gv
   split
   ·exact ⟨x,by simp,rfl,rfl,Int.le_refl _⟩
   ·rename_i hn
    rw [List.all_eq_true] at hn
    apply Classical.byContradiction
    intro hne
    apply hn
    intro o ho
    cases h1:decide (o.aR=x.aR) with
    | false=>rfl
    | true =>
     cases h2:decide (o.ay=x.ay) with
     | false=>rfl
     | true =>
      rw [decide_eq_true_eq] at h1 h2
      exact absurd ⟨o,ho,h1,h2,hacc o ho x (List.mem_cons_self ..)⟩ hne
  rcases List.mem_cons.1 hu with rfl|hu
  ·obtain ⟨t,ht,h⟩:=hx
   exact ⟨t,zN (L:=L) ht,h⟩
  ·refine u6 (L:=L) (fun a ha b hb=>?_) hs.2 u hu
   unfold gv at ha
   split at ha
   ·rcases List.mem_append.1 ha with ha|ha
    ·exact hacc a ha b (List.mem_cons_of_mem _ hb)
    ·rw [List.mem_singleton.1 ha];exact hs.1 b hb
   ·exact hacc a ha b (List.mem_cons_of_mem _ hb)
def IQ (P:aE→Bool):Prop:=∀ t u:aE,t.aR=u.aR→t.ay=u.ay→t.first≤u.first→P u=true→P t=true
theorem CW {a b:Bool} (h:a=true ↔ b=true):a=b:=by
 cases a <;> cases b <;> simp_all
theorem zP {P:aE→Bool} (hP:IQ P) {L:List aE} (hs:L.Pairwise (fun a b=>a.first≤b.first)):(xQ L).any P=L.any P:=by
 apply CW
 rw [List.any_eq_true,List.any_eq_true]
 constructor
 ·rintro ⟨t,ht,h⟩
  rcases zO ht with h0|h0
  ·cases h0
  ·exact ⟨t,h0,h⟩
 ·rintro ⟨u,hu,h⟩
  obtain ⟨t,ht,h1,h2,h3⟩:=u6 (acc:=[]) (fun a ha=>by cases ha) hs u hu
  exact ⟨t,ht,hP t u h1 h2 h3 h⟩
theorem xR (au:List Int) (k:Kind) (row:List Int) (l:List Count) (i:Nat):(j9 au k row l i).Pairwise (fun a b=>a.first≤b.first):=by
 unfold j9 CV
 refine List.Pairwise.filter _ ?_
 rw [List.pairwise_map]
 refine List.Pairwise.imp ?_ List.pairwise_lt_range
 intro a b hab
 unfold xK
 have h1:a / av k.ay / av k.aR≤b / av k.ay / av k.aR:=Nat.div_le_div_right (Nat.div_le_div_right (Nat.le_of_lt hab))
 dsimp only
 omega
theorem IU {P:aE→Bool} (hP:IQ P) {s:aB} {l:List Count} {i:Nat} {k:Kind}:(tj s l i k).any P=(oK s l i k).any P:=by
 apply CW
 rw [List.any_eq_true,List.any_eq_true]
 constructor
 ·rintro ⟨t,ht,h⟩
  obtain ⟨y,hy,rfl⟩:=List.mem_map.1 ht
  exact ⟨y.1,(xN hy).1,h⟩
 ·rintro ⟨u,hu,h⟩
  obtain ⟨y,hy,⟨h1,_⟩,⟨h3,h4⟩,_⟩:=xM hu
  exact ⟨y.1,List.mem_map.2 ⟨y,hy,rfl⟩,hP y.1 u h3 h4 h1 h⟩
theorem pH (au:List Int) (k:Kind) (row:List Int) (down:Int):IQ (eO au k row down):=by
 rintro ⟨a,m,p⟩ ⟨b,m',p'⟩ h1 h2 h3 h
 dsimp only at h1 h2 h3
 subst h1 h2
 unfold eO at h ⊢
 rw [decide_eq_true_eq] at h ⊢
 exact Int.lt_of_le_of_lt (xL h3 down _) h
theorem GG (s:aB) (l:List Count) (i:Nat) (k:Kind) (row:List Int) (down:Int):(tj s l i k).any (eO s.au k row down)=(xQ (oK s l i k)).any (eO s.au k row down):=by
 rw [IU (pH _ _ _ _),zP (pH _ _ _ _) (xR _ _ _ _ _)]
theorem CX {au:List Int} {k:Kind} {row row':List Int} {t:aE} (h:∀ i,row.getD i 0≤row'.getD i 0) (down:Int):∀ i,aW au k row t down i≤aW au k row' t down i
 | 0=>Int.le_refl _
 | i+1=>by
  have ih:=CX (au:=au) (k:=k) (t:=t) h down i
  have hi:=h i
  show max 0 (iT au k row t down i _)≤max 0 (iT au k row' t down i _)
  unfold iT
  generalize aW au k row t down i=a at *
  generalize aW au k row' t down i=b at *
  generalize row.getD i 0=c at *
  generalize row'.getD i 0=d at *
  omega
theorem zQ {au:List Int} {k:Kind} {row row':List Int} {t:aE} (h:∀ i,row.getD i 0≤row'.getD i 0) (down:Int):∀ i,bD au k row t down i≤bD au k row' t down i
 | 0=>Int.le_refl _
 | i+1=>by
  have ih:=zQ (au:=au) (k:=k) (t:=t) h down i
  have hh:=CX (au:=au) (k:=k) (t:=t) h down i
  have hi:=h i
  have hr:iT au k row t down i (aW au k row t down i)≤iT au k row' t down i (aW au k row' t down i):=by
   unfold iT
   generalize aW au k row t down i=a at *
   generalize aW au k row' t down i=b at *
   generalize row.getD i 0=c at *
   generalize row'.getD i 0=d at *
   omega
  show (if _ < 0 then _ else _)≤(if _ < 0 then _ else _)
  split <;> split <;> omega
theorem IV {row:List Int} {d:Nat} {n n':Int} (h:n≤n') (i:Nat):(row.set d (row.getD d 0+n)).getD i 0≤(row.set d (row.getD d 0+n')).getD i 0:=by
 rw [List.getD_eq_getElem?_getD,List.getD_eq_getElem?_getD (l:=row.set d (row.getD d 0+n')),List.getElem?_set,List.getElem?_set]
 split
 ·split
  ·dsimp only [Option.getD_some];omega
  ·exact Int.le_refl _
 ·exact Int.le_refl _
theorem xS {s:aB} {k:Kind} {row:List Int} {L:List aE} {d:Nat} {n n':Int} (h:n≤n') (hl:bP s k row L d n=true):bP s k row L d n'=true:=by
 unfold bP at hl ⊢
 rw [Bool.not_eq_true',List.any_eq_false] at hl ⊢
 intro t ht hs
 apply hl t ht
 unfold eO at hs ⊢
 rw [decide_eq_true_eq] at hs ⊢
 exact Int.lt_of_le_of_lt (zQ (IV h) _ _) hs
structure Kx (p:Nat→Bool) (n r:Nat):Prop where
 le:r≤n
 below:∀ a,a < r→p a=false
 here:r < n→p r=true
theorem CY (s:aB) (l:List Count) (i:Nat) (k:Kind) (row:List Int) (d:Nat) :
  Kx (fun n=>bP s k row (xQ (oK s l i k)) d n) 301 (bs (fun n=>bP s k row (tj s l i k) d n) 0 301):=by
 have he:(fun n:Nat=>bP s k row (xQ (oK s l i k)) d n)=fun n:Nat=>bP s k row (tj s l i k) d n:=by
  funext n
  unfold bP
  rw [GG]
 rw [he]
 have b0:=nF (fun n:Nat=>bP s k row (tj s l i k) d n) 0 301 (Nat.zero_le _) (fun a b _ h _ hp=>xS (by omega) hp)
 exact ⟨(pq _ 0 301 (Nat.zero_le _)).2,fun a ha=>b0.1 a (Nat.zero_le _) ha,b0.2⟩
end Go.Proofs.YtalcbebjpgfnfaaGreat.St

open Go Go.RM
namespace Go.Proofs.YtalcbebjpgfnfaaGreat.St
set_option maxRecDepth 100000
set_option maxHeartbeats 4000000
abbrev CZ (s:aB) (c:iC):aB:=⟨s.au,s.kinds,s.aj++[c]⟩
theorem u7:∀ L:List iC,bw ((L.map bM).flatten)=true
 | []=>rfl
 | t :: L=>by
  rw [List.map_cons,List.flatten_cons]
  exact fW rfl (u7 L)
theorem xT:∀ L:List iC,((L.map bM).flatten).all AV.one=true
 | []=>rfl
 | t :: L=>by
  rw [List.map_cons,List.flatten_cons,List.all_append,xT L]
  rfl
theorem L9 (one:Bool) (s:aB) (c:iC) (h:s.aj.length≤1000):Pu one 15 [.ag (aO s),.ag (bM c)] (.ag (aO (CZ s c))):=by
 show Pu one 15 [.ag [.sl (s.au.map eI) false,.sl (s.kinds.map bG) false,.sl (s.aj.map bM) false],.ag (bM c)] (.ag [.sl (s.au.map eI) false,.sl (s.kinds.map bG) false,.sl ((s.aj++[c]).map bM) false])
 have hd:bw ((s.aj.map bM).flatten)=true:=u7 s.aj
 have ho:=xT s.aj
 have hall:∀ el ∈ s.aj.map bM,el.length=3:=fun el hel=>by obtain ⟨y,_,rfl⟩:=List.mem_map.1 hel;rfl
 have hfl:(s.aj.map bM).flatten.length=(s.aj.map bM).length * 3:=dc hall
 have hlen:(s.aj.map bM).length≤1000:=by rw [List.length_map];exact h
 rw [show (s.aj++[c]).map bM=s.aj.map bM++[bM c] by simp]
 generalize s.aj.map bM=cs at *
 have fin:∀ (v n:Nat) (hp:List AB),n=cs.length→hp[2]?=some (.cells (cs.flatten++[bM c].flatten) 3 v)→Fz hp (.ag [.sl (s.au.map eI) false,.sl (s.kinds.map bG) false,.bX 2 v 0 (n+1) (n+1+1)]) (.ag [.sl (s.au.map eI) false,.sl (s.kinds.map bG) false,.sl (cs++[bM c]) false]):=by
  intro v n hp hn hv
  subst hn
  refine Fz.ag rfl ?_
  intro j a b ha hb
  match j,ha,hb with
  | 0,ha,hb=>cases ha;cases hb;exact Fz.deep rfl
  | 1,ha,hb=>cases ha;cases hb;exact Fz.deep rfl
  | 2,ha,hb =>
   cases ha
   cases hb
   refine Fz.row (es:=3) hv ?_ ?_ ?_ ?_ ?_ (fun h=>Bool.noConfusion h)
   ·rw [List.length_append,hfl]
    show 0+(cs.length+1) * 3≤cs.length * 3+3
    omega
   ·simp
   ·intro el hel
    rcases List.mem_append.1 hel with h1|h1
    ·exact hall el h1
    ·rw [List.mem_singleton.1 h1];rfl
   ·rw [List.flatten_append,List.drop_zero,List.take_of_length_le]
    rw [List.length_append,hfl]
    show cs.length * 3+3≤_
    omega
   ·rw [List.flatten_append]
    exact fW hd rfl
  | j+3,ha,hb=>cases ha
 by_cases hne:cs=[]
 ·subst hne
  refine af.body (fn:=Tryz.f15) rfl rfl rfl rfl ?_
  refine aa (mu:=fun t=>Nat.beq t 2 || Nat.beq t 5) ?_
  repeat' (first |refine u1 ?_ |with_reducible refine RM.EL rfl ?_ |refine u2 ?_ |fail)
  refine ⟨[],⟨fun el hel=>(by cases hel),rfl⟩,rfl,_,rfl,rfl,Or.inl rfl,And.intro (by decide) (by decide),fun _=>?_,fun h=>absurd rfl h⟩
  repeat' (first |refine u1 ?_ |refine u2 ?_ |fail)
  refine ⟨[bM c],⟨fun el hel=>by rw [List.mem_singleton.1 hel];rfl,rfl⟩,rfl,_,rfl,rfl,Or.inl rfl,And.intro (by show (0+1) * 24≤_;decide) (by show 0+1≤_;decide),fun hn=>absurd hn (by simp),fun _=>?_⟩
  repeat' (first |refine u1 ?_ |refine u2 ?_ |fail)
  exact ⟨[_],⟨fin 1 0 _ rfl rfl,trivial⟩,rfl⟩
 ·refine af.body (fn:=Tryz.f15) rfl rfl rfl rfl ?_
  refine aa (mu:=fun t=>Nat.beq t 2 || Nat.beq t 5) ?_
  repeat' (first |refine u1 ?_ |with_reducible refine RM.EL rfl ?_ |refine u2 ?_ |fail)
  refine ⟨cs,⟨hall,rfl⟩,ho,_,rfl,rfl,Or.inl rfl,And.intro (by show (0+cs.length) * 24≤_;omega) (by show 0+cs.length≤_;omega),fun h=>absurd h hne,fun _=>?_⟩
  repeat' (first |refine u1 ?_ |refine u2 ?_ |fail)
  refine ⟨[bM c],⟨fun el hel=>by rw [List.mem_singleton.1 hel];rfl,rfl⟩,rfl,_,rfl,(by show (([]:List AV)++cs.flatten).length=(0+cs.length) * 3;rw [List.nil_append,hfl,Nat.zero_add]),Or.inr rfl,And.intro (by show (0+cs.length+1) * 24≤_;omega) (by show 0+cs.length+1≤_;omega),fun hn=>absurd hn (by simp),fun _=>?_⟩
  repeat' (first |refine u1 ?_ |refine u2 ?_ |fail)
  exact ⟨[_],⟨fin 2 (0+cs.length) _ (Nat.zero_add _) rfl,trivial⟩,rfl⟩
end Go.Proofs.YtalcbebjpgfnfaaGreat.St
open Go Go.RM
namespace Go.Proofs.YtalcbebjpgfnfaaGreat.St
set_option maxRecDepth 100000
theorem jQ {k:Kind} {t:aE}:kF k t=true ↔ (k.first.lo≤t.first∧t.first≤k.first.hi)∧(k.aR.lo≤t.aR∧t.aR≤k.aR.hi)∧k.ay.lo≤t.ay∧t.ay≤k.ay.hi:=by
 unfold kF
 simp only [Bool.and_eq_true,fm]
theorem Ky {au:List Int} {k:Kind} {row:List Int} {l:List Count} {i:Nat} {t:aE}:t ∈ j9 au k row l i ↔ (kF k t=true∧L7 au k row l i t=true):=by
 unfold j9 CV
 rw [List.mem_filter,List.mem_map]
 constructor
 ·rintro ⟨⟨q,hq,rfl⟩,ha⟩
  rw [List.mem_range] at hq
  refine ⟨?_,ha⟩
  have hP:0 < av k.ay:=by
   apply Nat.pos_of_ne_zero
   intro h0
   rw [h0,Nat.mul_zero] at hq
   exact absurd hq (Nat.not_lt_zero _)
  have hM:0 < av k.aR:=by
   apply Nat.pos_of_ne_zero
   intro h0
   rw [h0,Nat.mul_zero,Nat.zero_mul] at hq
   exact absurd hq (Nat.not_lt_zero _)
  have h1:q / av k.ay % av k.aR < av k.aR:=Nat.mod_lt _ hM
  have h2:q % av k.ay < av k.ay:=Nat.mod_lt _ hP
  have h3:q / av k.ay / av k.aR < av k.first:=by
   rw [Nat.div_lt_iff_lt_mul hM,Nat.div_lt_iff_lt_mul hP]
   exact hq
  rw [jQ]
  unfold xK
  dsimp only
  generalize q / av k.ay % av k.aR=x at *
  generalize q % av k.ay=y at *
  generalize q / av k.ay / av k.aR=z at *
  clear hq hP hM ha
  unfold av at *
  omega
 ·rintro ⟨ht,ha⟩
  refine ⟨?_,ha⟩
  rw [jQ] at ht
  obtain ⟨a,b,c⟩:=t
  dsimp only at ht
  obtain ⟨x,rfl⟩:∃ x:Nat,a=k.first.lo+x:=⟨(a - k.first.lo).toNat,by omega⟩
  obtain ⟨y,rfl⟩:∃ x:Nat,b=k.aR.lo+x:=⟨(b - k.aR.lo).toNat,by omega⟩
  obtain ⟨z,rfl⟩:∃ x:Nat,c=k.ay.lo+x:=⟨(c - k.ay.lo).toNat,by omega⟩
  have hx:x < av k.first:=by unfold av;omega
  have hy:y < av k.aR:=by unfold av;omega
  have hz:z < av k.ay:=by unfold av;omega
  refine ⟨(x * av k.aR+y) * av k.ay+z,?_,zL k hy hz⟩
  rw [List.mem_range]
  have q1:(x+1) * av k.aR≤av k.first * av k.aR:=Nat.mul_le_mul_right _ hx
  rw [Nat.add_mul,Nat.one_mul] at q1
  have q2:(x * av k.aR+y+1) * av k.ay≤av k.first * av k.aR * av k.ay:=Nat.mul_le_mul_right _ (by omega)
  rw [Nat.add_mul,Nat.one_mul] at q2
  omega
theorem zR (au:List Int) (k:Kind) (row:List Int) (t:aE):0≤bA au k row t∧bA au k row t≤au.length:=by
 rcases oe au k row t au.length au.length with h|h
 ·unfold bA
  rw [h]
  omega
 ·unfold bA
  omega
theorem Ec {s:aB} {k:Kind} {row:List Int} {l:List Count} {i:Nat} :
  (j9 s.au k row l i=[]∧(iL s.au.length (bA s.au k row) (bu s.au k row (bp l i))).e=9) ∨
  (∃ t n,(iL s.au.length (bA s.au k row) (bu s.au k row (bp l i)))=⟨t,n,0⟩∧t ∈ j9 s.au k row l i∧n=bA s.au k row t∧∀ u ∈ j9 s.au k row l i,n≤bA s.au k row u):=by
 have hs:=zM s.au k row (bp l i) (bA s.au k row) s.au.length (fun t=>(zR _ _ _ t).2) (av k.aR * av k.ay)
 change (bu s.au k row (bp l i)=[]∧iL s.au.length (bA s.au k row) (bu s.au k row (bp l i))=_)∨_ at hs
 rcases hs with ⟨h1,h2⟩|⟨h1,⟨z,hz,h2⟩,h3,h4⟩
 ·exact .inl ⟨Bd.1 h1,by rw [h2]⟩
 ·refine .inr ⟨z.1,bA s.au k row z.1,?_,(xN hz).1,rfl,fun u hu=>?_⟩
  ·change (iL s.au.length (bA s.au k row) (bu s.au k row (bp l i))).e=0 at h1
   change (iL s.au.length (bA s.au k row) (bu s.au k row (bp l i))).t=z.1 at h2
   change (iL s.au.length (bA s.au k row) (bu s.au k row (bp l i))).day=bA s.au k row (iL s.au.length (bA s.au k row) (bu s.au k row (bp l i))).t at h3
   rw [h2] at h3
   generalize iL s.au.length (bA s.au k row) (bu s.au k row (bp l i))=e at *
   obtain ⟨a,b,c⟩:=e
   dsimp only at h1 h2 h3
   rw [h1,h2,h3]
  ·obtain ⟨y,hy,⟨y1,_⟩,⟨y2,y3⟩,_⟩:=xM hu
   have h5:=h4 y hy
   change Le (bA s.au k row) (iL s.au.length (bA s.au k row) (bu s.au k row (bp l i))).t y.1 at h5
   change (iL s.au.length (bA s.au k row) (bu s.au k row (bp l i))).t=z.1 at h2
   rw [h2] at h5
   have h6:bA s.au k row y.1≤bA s.au k row u:=GA y1 y2 y3
   unfold Le at h5
   omega
end Go.Proofs.YtalcbebjpgfnfaaGreat.St

open Go Go.RM
namespace Go.Proofs.YtalcbebjpgfnfaaGreat.St
set_option maxRecDepth 100000
set_option maxHeartbeats 4000000
theorem GH {s:aB} (hg:Good s) (h8:s.aj.length≤8) {d i:Nat} (hd:d < s.au.length) (hi:i < s.kinds.length) {n:Int} (hn:0≤n∧n≤300):Good (CZ s ⟨d,i,n⟩):=by
 have hz:=fo hg.sizes
 refine ⟨⟨hz.1,hz.2.1,?_⟩,hg.au,hg.kinds,fun c hc=>?_⟩
 ·show (s.aj++[(⟨d,i,n⟩:iC)]).length≤9
  rw [List.length_append]
  show s.aj.length+1≤9
  omega
 ·rcases List.mem_append.1 hc with hc|hc
  ·exact hg.aj c hc
  ·rw [List.mem_singleton.1 hc]
   dsimp only
   omega
theorem C1 (s:aB) (i d:Nat) (n:Int):ak i (CZ s ⟨d,i,n⟩).aj=(ak i s.aj).set d ((ak i s.aj).getD d 0+n):=by
 show ak i (s.aj++[_])=_
 rw [jE]
 unfold fL
 rw [if_pos rfl]
 rfl
end Go.Proofs.YtalcbebjpgfnfaaGreat.St
open Go Go.RM
namespace Go.Proofs.YtalcbebjpgfnfaaGreat.St
set_option maxRecDepth 100000
set_option maxHeartbeats 4000000
theorem IW {k:Kind} (h:lM k) (a b c:Int):kF k (Km k a b c)=true:=by
 have hs:=h.Lg
 have h1:=uu hs.1 a
 have h2:=uu hs.2.1 b
 have h3:=uu hs.2.2 c
 unfold kF Km
 simp only [Bool.and_eq_true,fm]
 exact ⟨h1,h2,h3⟩
theorem N5 {a:Int} {n:Nat} (hn:0 < n):∃ i:Nat,i < n∧a % (n:Int)=i:=by
 have h1:=Int.emod_nonneg a (show (n:Int) ≠ 0 by omega)
 have h2:=Int.emod_lt_of_pos a (show 0 < (n:Int) by omega)
 exact ⟨(a % (n:Int)).toNat,by omega,by omega⟩
theorem IX (one:Bool) {s:aB} (hg:Good s) {i:Nat} (hi:i < s.kinds.length) {t:aE} (h:eK s.au s.kinds[i] (ak i s.aj) t) :
  ∃ u b:Int,Pu one 50 [.ag (aO s),ah i,.ag (aV t),ah s.au.length] (.tp [.sl ((lvl s.au s.kinds[i] (ak i s.aj) t).map eI) false,ah (bA s.au s.kinds[i] (ak i s.aj) t),ah u,ah b]):=by
 have:=IB one s hg i hi t s.au.length h
 rw [show ((List.range (s.au.length+1)).map fun j=>eI (aW s.au s.kinds[i] (ak i s.aj) t s.au.length j))=(lvl s.au s.kinds[i] (ak i s.aj) t).map eI by unfold lvl;rw [List.map_map];rfl] at this
 exact ⟨_,_,this⟩
end Go.Proofs.YtalcbebjpgfnfaaGreat.St

open Go Go.RM
namespace Go.Proofs.YtalcbebjpgfnfaaGreat.St
set_option maxRecDepth 100000
set_option maxHeartbeats 4000000
theorem Ed (au:List Int) (k:Kind) (row:List Int) (t:aE) (down:Int):bD au k row t down au.length≤au.length:=by
 rcases oe au k row t down au.length with h|h <;> omega
end Go.Proofs.YtalcbebjpgfnfaaGreat.St

open Go Go.RM
namespace Go.Proofs.YtalcbebjpgfnfaaGreat.St
set_option maxRecDepth 100000
set_option maxHeartbeats 4000000
theorem C2 (s:aB) (h:s.Ok) (l:List Count) (h0:dY s l=0) (i:Nat) (hi:i < s.kinds.length) (d:Nat) (hd:d < s.au.length) :
  (Pu true 14 [.ag (aO s),.sl (l.map aG) false,ah i,ah d] (.tp [ah 0,ah 9])∧(oK s l i s.kinds[i] ≠ []→∀ n:Nat,n≤300→bP s s.kinds[i] (ak i s.aj) (oK s l i s.kinds[i]) d n=false)) ∨
  ∃ r:Nat,Pu true 14 [.ag (aO s),.sl (l.map aG) false,ah i,ah d] (.tp [ah r,ah 0])∧r≤300∧oK s l i s.kinds[i] ≠ []∧bP s s.kinds[i] (ak i s.aj) (oK s l i s.kinds[i]) d r=true ∧
   ∀ n:Nat,n < r→bP s s.kinds[i] (ak i s.aj) (oK s l i s.kinds[i]) d n=false:=by
 by_cases hz:oK s l i s.kinds[i]=[]
 ·exact .inl ⟨Eb true s h l h0 i hi d hd (Bd.2 hz),fun h=>absurd hz h⟩
 ·have h1:=GF true s h l h0 i hi d hd (fun h=>hz (Bd.1 h)) _ rfl
  have hl:=CY s l i s.kinds[i] (ak i s.aj) d
  have he:(fun n:Nat=>bP s s.kinds[i] (ak i s.aj) (xQ (oK s l i s.kinds[i])) d n)=fun n:Nat=>bP s s.kinds[i] (ak i s.aj) (oK s l i s.kinds[i]) d n:=by
   funext n
   unfold bP
   rw [zP (pH _ _ _ _) (xR _ _ _ _ _)]
  rw [he] at hl
  generalize bs (fun n=>bP s s.kinds[i] (ak i s.aj) (tj s l i s.kinds[i]) d n) 0 301=r at *
  by_cases hr:300 < r
  ·rw [if_pos hr] at h1
   exact .inl ⟨h1,fun _ n hn=>hl.below n (by omega)⟩
  ·rw [if_neg hr] at h1
   exact .inr ⟨r,h1,by omega,hz,hl.here (by omega),fun n hn=>hl.below n hn⟩
end Go.Proofs.YtalcbebjpgfnfaaGreat.St
open Go Go.RM
namespace Go.Proofs.YtalcbebjpgfnfaaGreat.St
set_option maxRecDepth 100000
set_option maxHeartbeats 4000000
def fj (a b:Int):Int:=if a < b then -1 else if b < a then 1 else 0
def eN:List Int→List Int→Int
 | [],[]=>0
 | [],_ :: _=>-1
 | _ :: _,[]=>1
 | a :: l,b :: m=>if fj a b=0 then eN l m else fj a b
theorem kB (a b:Int) (l m:List Int):eN (a :: l) (b :: m)=if fj a b=0 then eN l m else fj a b:=by rw [eN]
theorem hJ (a:Int) (l:List Int):eN (a :: l) []=1:=by rw [eN]
theorem kD (b:Int) (m:List Int):eN [] (b :: m)=-1:=by rw [eN]
theorem od:eN [] []=0:=by rw [eN]
end Go.Proofs.YtalcbebjpgfnfaaGreat.St
open Go Go.RM
namespace Go.Proofs.YtalcbebjpgfnfaaGreat.St
set_option maxRecDepth 100000
set_option maxHeartbeats 4000000
structure u9 (S:List Int) (i j:Nat):Prop where
 others:∀ p q:Nat,p < q→q≤i→p ≠ j→q ≠ j→S.getD p 0≤S.getD q 0
 above:∀ q:Nat,j < q→q≤i→S.getD j 0≤S.getD q 0
end Go.Proofs.YtalcbebjpgfnfaaGreat.St

