/-
  Contracts of the program's functions and of the document's. Lemmas alone; their conditions stand in them.
-/
import Derived.Test.YtlpmfgmldmdggaaGreatK23
open Go Go.RM
namespace Go.Proofs.YtlpmfgmldmdggaaGreat
set_option maxRecDepth 100000
def yJ (q:Int) (m:ji):ji:=⟨m.name,m.jx,m.nu+q,m.CV⟩
def iT (c:aL) (q:Int):aL:=⟨c.aC,c.aD.map (yJ q),c.least⟩
theorem lq (c:aL) (q:Int):(iT c q).aD.length=c.aD.length:=List.length_map _
theorem Dk {c:aL} (h:c.Ok) (q:Int):(iT c q).Ok:=⟨h.aC,h.CW,by rw [lq];exact h.aD,fun x hx=>by
 obtain ⟨m,hm,rfl⟩:=List.mem_map.1 hx
 exact h.CX m hm⟩
theorem Ad (c:aL) (q:Int) (k:Nat):(iT c q).aD[k]?=(c.aD[k]?).map (yJ q):=List.getElem?_map
theorem LV (c:aL) (q:Int) (k:Nat):fR (iT c q) k=fR c k:=by unfold fR;rw [Ad];cases c.aD[k]? <;> rfl
theorem rU (c:aL) (q:Int) (r:Nat):∀ k,bD (iT c q) r k=bD c r k
 | 0=>rfl
 | k+1=>by unfold bD;rw [rU c q r k,LV]
theorem JU (c:aL) (q:Int):xN (iT c q)=xN c:=by
 funext a
 show xM (bD (iT c q) 0 (iT c q).aD.length) (bD (iT c q) 1 (iT c q).aD.length) (bD (iT c q) 2 (iT c q).aD.length) a=_;rw [lq,rU,rU,rU]
theorem JV (c:aL) (q w:Int):iz (iT c q) w=iz c w:=by unfold iz;rw [JU,lq]
theorem w6 {c:aL} (q:Int) (p:bE) {i:Nat} (hi:i < c.aD.length) (n:Int):cU (iT c q) p i n=cU c p i n+q:=by
 have h1:yz (iT c q) i=yz c i+q:=by unfold yz;rw [Ad,List.getElem?_eq_getElem hi];rfl
 have h2:sX (iT c q) i=sX c i:=by unfold sX CY;rw [Ad];cases c.aD[i]? <;> rfl
 unfold cU;rw [h1,h2];unfold sZ;omega
theorem Ca {c:aL} (h1:1≤c.aD.length) (q:Int) (p:bE) (t:List Nat):∀ k,k≤c.aD.length→uC (iT c q) p t k=uC c p t k+q
 | 0,_=>w6 q p (by omega) _
 | k+1,h=>by show max (uC (iT c q) p t k) (cU (iT c q) p k _)=max (uC c p t k) (cU c p k _)+q;rw [Ca h1 q p t k (by omega),w6 q p (by omega)];omega
theorem JW {c:aL} (h1:1≤c.aD.length) (q:Int) (p:bE) (t:List Nat):jn (iT c q) p t=jn c p t+q:=by unfold jn;rw [lq];exact Ca h1 q p t _ (qq6 _)
def Nb (q:Int) (y:List Nat × Int):List Nat × Int:=(y.1,y.2+q)
theorem Eh (q:Int):∀ (xs:List (List Nat × Int)) (o:zY),(xs.map (Nb q)).foldl uD (o.map (Nb q))=(xs.foldl uD o).map (Nb q)
 | [],o=>rfl
 | y :: xs,o=>by
  rw [List.map_cons,List.foldl_cons,List.foldl_cons,←Eh q xs]
  congr 1
  cases o with
  | none=>rfl
  | some x =>
   by_cases h:y.2 < x.2
   ·rw [wO h];exact wO (show y.2+q < x.2+q by omega)
   ·rw [wP h];exact wP (show ¬ y.2+q < x.2+q by omega)
theorem JX {c:aL} (hg:Good c) {p:bE} (hp:ob p) (q:Int) (hg2:Good (iT c q)):jA (iT c q) p=((jA c p).1,(jA c p).2+q):=by
 have e0:wQ (iT c q) p p.turns.toNat []=(wQ c p p.turns.toNat []).map (Nb q):=by
  rw [og hg2 hp _ _ (fun x hx=>by cases hx),og hg hp _ _ (fun x hx=>by cases hx),←Eh q _ none,JV]
  congr 1
  unfold BU;rw [List.map_map];apply List.map_congr_left;intro t _;show (t,jn (iT c q) p t)=(t,jn c p t+q);rw [JW hg.aD.1]
 have h1:=(l7 hg hp).eq
 unfold jA at *
 rw [e0,h1];rfl
theorem Ig (f g:Nat→Int) (q x:Int) (h:∀ k,g k=f k+q):∀ n k,yF g (x+q) n k=yF f x n k
 | 0,_=>rfl
 | n+1,k=>by
  unfold yF;rw [h k,Ig f g q x h n (k+1)];by_cases hx:x < f k
  ·rw [if_pos hx,if_pos (by omega)]
  ·rw [if_neg hx,if_neg (by omega)]
theorem Ih {c:aL} (q:Int) (p:bE) {i:Nat} (hi:i < c.aD.length) (x:Int):fH (iT c q) p (x+q) i=fH c p x i :=
 Ig _ _ q x (fun _=>w6 q p hi _) _ _
theorem Ii (c:aL) (q:Int) (p:bE) (x:Int):oZ (iT c q) p (x+q)=oZ c p x:=by
 have h1:∀ k,k≤c.aD.length→z6 (iT c q) p (x+q) k=z6 c p x k∧cw (fH (iT c q) p (x+q)) k=cw (fH c p x) k:=by
  intro k
  induction k with
  | zero=>intro _;exact ⟨rfl,rfl⟩
  | succ k ih =>
   intro hk;obtain ⟨e1,e2⟩:=ih (by omega);refine ⟨?_,?_⟩
   ·show (z6 (iT c q) p (x+q) k && _)=(z6 c p x k && _);rw [e1,Ih q p (by omega)]
   ·show cw _ k+_=cw _ k+_;rw [e2,Ih q p (by omega)]
 obtain ⟨e1,e2⟩:=h1 _ (qq6 _);unfold oZ;rw [lq,e1,e2]
theorem LW {c:aL} (hg:Good c) {p:bE} (hp:ob p) (q:Int) (hg2:Good (iT c q)):wY (iT c q) p=wY c p+q:=by
 have h:=gP hg hp;refine (gP hg2 hp).uniq ⟨?_,by rw [Ii];exact h.ok,fun x hx hox=>?_⟩
 ·obtain ⟨j,k,hj,hk,hv⟩:=gm.1 h.mem;exact gm.2 ⟨j,k,by rw [lq];exact hj,hk,by rw [hv];exact (w6 q p hj _).symm⟩
 ·obtain ⟨j,k,hj,hk,hv⟩:=gm.1 hx;rw [lq] at hj;have hv:x=cU (iT c q) p j (k:Int):=hv;rw [w6 q p hj] at hv;have:=h.low (cU c p j (k:Int)) (gm.2 ⟨j,k,hj,hk,rfl⟩) (by rw [←Ii c q p,←hv];exact hox);omega
theorem Dl {n:Nat} {e:Nat→Int} (h:∀ i,e i=0∨e i=7):(cm n e).2=0∨(cm n e).2=7:=by
 unfold cm;split
 ·rename_i i _;exact h i
 ·exact .inl rfl
theorem JY {c:aL} (h:(nr c).2.2=0) (q:Int):(nr (iT c q)).2.2=0∨(nr (iT c q)).2.2=7:=by
 have h0:=h;unfold nr at h;split at h
 ·cases h
 ·rename_i h1;split at h
  ·cases h
  ·rename_i h2;split at h
   ·rename_i h3;exact absurd h h3
   ·rename_i h3;split at h
    ·rename_i h4;exact absurd h h4
    ·rename_i h4;have z2:=oa (Decidable.not_not.1 h4)
     have hm:∀ i,Ag (iT c q) i=0∨Ag (iT c q) i=7:=fun i=>by
      unfold Ag cQ;rw [Ad]
      cases hi:c.aD[i]? with
      | none=>exact .inl rfl
      | some m =>
       have hil:=(List.getElem?_eq_some_iff.1 hi).1;have hz:=z2 i hil;unfold Ag cQ at hz;rw [hi] at hz;simp only at hz;have ht:((iT c q).aD.take i).any (fun y=>tY y.name (yJ q m).name)=(c.aD.take i).any fun y=>tY y.name m.name:=by show ((c.aD.map (yJ q)).take i).any _=_;rw [←List.map_take,List.any_map];rfl
       show (if gO m.name=false then (6:Int) else if ((iT c q).aD.take i).any (fun y=>tY y.name (yJ q m).name)=true then 5 else ee (c.aC.length:Int) (yJ q m))=0∨(if gO m.name=false then (6:Int) else if ((iT c q).aD.take i).any (fun y=>tY y.name (yJ q m).name)=true then 5 else ee (c.aC.length:Int) (yJ q m))=7;rw [ht];split at hz
       ·cases hz
       ·rename_i n1;split at hz
        ·cases hz
        ·rename_i n2;rw [if_neg n1,if_neg n2];unfold ee at hz ⊢;split at hz
         ·cases hz
         ·rename_i n3;show (if fk 0 ((c.aC.length:Int) - 1) [m.jx]=true then (4:Int) else _)=0∨(if fk 0 ((c.aC.length:Int) - 1) [m.jx]=true then (4:Int) else _)=7;rw [if_neg n3];split
          ·exact .inr rfl
          ·exact .inl rfl
     have hf:=Dl (n:=(iT c q).aD.length) hm;unfold nr;rw [if_neg (show ¬ (fk 1 3 [((iT c q).aC.length:Int)] || fk 1 5 [((iT c q).aD.length:Int)])=true by rw [lq];exact h1),if_neg (show ¬ fk 0 5 [(iT c q).least]=true from h2),if_neg (show ¬ (cm (iT c q).aC.length (FB (iT c q))).2 ≠ 0 from h3)];split
     ·exact hf
     ·exact .inl rfl
theorem LX {c:aL} {p:bE} (h:kJ c p=0) (q:Int):kJ (iT c q) p=0∨kJ (iT c q) p=7:=by
 unfold kJ at h ⊢;split at h
 ·rename_i h1;exact absurd h h1
 ·rename_i h1
  rcases JY (Decidable.not_not.1 h1) q with h2|h2
  ·rw [if_neg (fun hh=>hh h2)];exact .inl h
  ·rw [if_pos (by rw [h2];decide)];exact .inr h2
def Kv (p:bE):bE:=⟨p.turns,p.days,2⟩
theorem Kw {c:aL} {p:bE} (h:kJ c p=0):kJ c (Kv p)=0:=by
 have hp:=(pU h).2;unfold kJ at h ⊢;split at h
 ·rename_i h1;exact absurd h h1
 ·rename_i h1;rw [if_neg h1];unfold MG at h ⊢;split at h
  ·cases h
  ·rename_i n1;split at h
   ·cases h
   ·rename_i n2;show (if jy p.turns 1 4=false then (7:Int) else if jy p.days 1 60=false then 7 else if jy 2 1 2=false then 7 else 0)=0;rw [if_neg n1,if_neg n2];rfl
theorem JZ {c:aL} {w w2:Int} (hw:w≤w2) {b l:List Int} (h:jl c w b l=0):jl c w2 b l=0:=by
 unfold jl at h ⊢;split at h
 ·cases h
 ·rename_i n1;rw [if_neg n1];unfold C7 at h ⊢;split at h
  ·cases h
  ·rename_i n2;rw [if_neg n2];unfold Fi at h ⊢;split at h
   ·cases h
   ·rename_i n3;rw [if_neg (by omega)];exact h
theorem Ei {c:aL} {w w2:Int} (hw:w≤w2):∀ (T:List (List Int)) (b:List Int),od c w b T=0→od c w2 b T=0
 | [],_,_=>rfl
 | l :: T,b,h=>by
  have h:(if jl c w b l ≠ 0 then jl c w b l else od c w l T)=0:=h;by_cases h0:jl c w b l=0
  ·rw [if_neg (fun hh=>hh h0)] at h;show (if jl c w2 b l ≠ 0 then jl c w2 b l else od c w2 l T)=0;rw [if_neg (fun hh=>hh (JZ hw h0))];exact Ei hw T l h
  ·rw [if_pos h0] at h;exact absurd h h0
theorem J0 {c:aL} {p:bE} (h:kJ c p=0):(jA c (Kv p)).2≤(jA c p).2:=by
 obtain ⟨hg,hp⟩:=pU h;have hp2:=(pU (Kw h)).2;have hgo:=B2 hg hp h;have hl:((kH c p).length:Int)=(Kv p).turns:=by unfold kH;rw [List.length_map];exact (uT hg hp).2
 have:=Fs hg hp2 (T:=kH c p) hl (Ei (by have:=hp.aR;show p.aR≤2;omega) _ _ (Hh hgo).2.2);rw [←wV hg hp];exact this
end Go.Proofs.YtlpmfgmldmdggaaGreat
open Go Go.RM
namespace Go.Proofs.YtlpmfgmldmdggaaGreat
set_option maxRecDepth 100000
set_option maxHeartbeats 4000000
abbrev mF (L:List ji):List AV:=(L.map aZ).flatten
theorem tf:∀ L:List ji,(mF L).length=L.length * 4
 | []=>rfl
 | m :: L=>by show (aZ m++mF L).length=_;have e:(aZ m).length=4:=rfl;rw [List.length_append,tf L,e,List.length_cons];omega
theorem Ij {P:AV→Bool} (h:∀ m:ji,(aZ m).all P=true):∀ L:List ji,(mF L).all P=true
 | []=>rfl
 | m :: L=>by show (aZ m++mF L).all P=true;rw [List.all_append,h m,Ij h L];rfl
theorem rV:∀ {a b:List AV},cI a=true→cI b=true→cI (a++b)=true
 | [],_,_,hb=>hb
 | x :: a,b,ha,hb=>by simp only [cI,qq7] at ha;show (x.deep && cI (a++b))=true;rw [ha.1,rV ha.2 hb];rfl
theorem Ej:∀ L:List ji,cI (mF L)=true
 | []=>rfl
 | m :: L=>rV (a:=aZ m) rfl (Ej L)
theorem ue (k:Nat):∀ {a b:List AV},RM.mU k a=true→RM.mU k b=true→RM.mU k (a++b)=true
 | [],_,_,hb=>hb
 | x :: a,b,ha,hb=>by simp only [RM.mU,qq7] at ha;show (x.ig k && RM.mU k (a++b))=true;rw [ha.1,ue k ha.2 hb];rfl
theorem Ik (k:Nat):∀ L:List ji,RM.mU k (mF L)=true
 | []=>rfl
 | m :: L=>ue k (a:=aZ m) rfl (Ik k L)
def Cb (q:Int) (L:List ji) (k:Nat):List ji:=(L.take k).map (yJ q)++L.drop k
theorem J1 (q:Int) (L:List ji) (k:Nat):(Cb q L k).length=L.length:=by unfold Cb;rw [List.length_append,List.length_map,List.length_take,List.length_drop];omega
theorem th {q:Int} {L:List ji} {k:Nat} (hk:k < L.length):Cb q L k=(L.take k).map (yJ q)++L[k] :: L.drop (k+1)∧Cb q L (k+1)=(L.take k).map (yJ q)++yJ q L[k] :: L.drop (k+1):=by unfold Cb;refine ⟨by rw [List.drop_eq_getElem_cons hk],?_⟩;rw [List.take_add_one,List.getElem?_eq_getElem hk,List.map_append,List.append_assoc];rfl
theorem Dm (A B:List ji):mF (A++B)=mF A++mF B:=by unfold mF;rw [List.map_append,List.flatten_append]
theorem LY {q:Int} {L:List ji} {k:Nat} (hk:k < L.length):(mF (Cb q L k))[0+((k:Nat):Int).toNat * 4+2]?=some (af (L[k]).nu):=by
 have hl:(mF ((L.take k).map (yJ q))).length=k * 4:=by rw [tf,List.length_map,List.length_take];omega
 rw [(th hk).1,Dm,Int.toNat_natCast,Nat.zero_add,List.getElem?_append_right (by omega),hl,Nat.add_sub_cancel_left];rfl
theorem LZ {q:Int} {L:List ji} {k:Nat} (hk:k < L.length):aQ (mF (Cb q L k)) [af ((L[k]).nu+q)] (0+((k:Nat):Int).toNat * 4+2)=mF (Cb q L (k+1)):=by
 have hl:(mF ((L.take k).map (yJ q))).length=k * 4:=by rw [tf,List.length_map,List.length_take];omega
 rw [(th hk).1,(th hk).2,Dm,Dm,Int.toNat_natCast,Nat.zero_add];unfold aQ;rw [←hl,List.take_length_add_append,List.length_singleton,Nat.add_assoc,List.drop_length_add_append,List.append_assoc,List.append_assoc];rfl
theorem Ae (r:List (List AV)) (v cc m:Nat) (L:List ji) (z:Int):([.cells [.sl r false,.aJ 1 v 0 m cc,af z] 0 0,.cells (mF L) 4 v]:List AB).all (AB.ig 2)=true:=by have h1:AB.ig 2 (.cells (mF L) 4 v)=true:=Ik 2 L;simp only [List.all_cons,List.all_nil,h1,Bool.and_true];rfl
theorem J2 (c:aL) (h:c.Ok) (p:bE) (n:Nat) (hn:n≤65535):Pu false 15 [.ag (aI c),.ag (cV p),.fl (.int .u16 ((n:Nat):Int))] (BB true):=by
 have o2:=Ab false c h p;have aw1:=KT false;by_cases he:kJ c p=0
 ·obtain ⟨hg,hp⟩:=pU he;rw [decide_eq_true he] at o2;have o1:=oU false c h p;have o3:=oU false c h (Kv p);have o4:=Ab false (iT c (n:Nat)) (Dk h _) p;have o5:=oU false (iT c (n:Nat)) (Dk h _) p;have o6:=Ac false c h p;have o7:=Ac false (iT c (n:Nat)) (Dk h _) p;unfold Jr at o1 o3 o5;unfold Na at o6 o7;rw [if_pos he] at o1;rw [if_pos (Kw he)] at o3;rw [if_pos he,he] at o6;have hless:=J0 he;obtain ⟨hTL,hTp,hT5⟩:=Ib hg hp;have hT4:=hp.turns;have o8:=Fw false (kH c p) false false (by omega) (fun l hl=>by have:=hT5 l hl;simp only [maxLen];omega);have hsh:=fun hg2=>JX hg hp (n:Nat) hg2;have hfl:=fun hg2=>LW hg hp (n:Nat) hg2;have hcp:=LX he (n:Nat);have hm5:=hg.aD;have hbd:=hg.M6;have hbo:-500000≤(jA c p).2∧(jA c p).2≤700000:=by rw [←wV hg hp];unfold C4;rw [rQ];obtain ⟨i,h1,h2⟩:=C5 (uR c p (kH c p) c.aD.length) (c.aD.length - 1);rw [h2];unfold aH uR;rw [List.getD_eq_getElem?_getD,List.getElem?_map,List.getElem?_range (by omega)];exact Ic hg hp (i:=i) (by omega) (by have:=C8 (kH c p) i (kH c p).length;omega)
  have hbf:-500000≤wY c p∧wY c p≤700000:=by obtain ⟨j,k,hj,hk,hv⟩:=gm.1 (gP hg hp).mem;rw [hv];exact Ic hg hp hj (by have:=hp.turns;omega)
  have hmen:Cb (n:Nat) c.aD c.aD.length=c.aD.map (yJ (n:Nat)):=by unfold Cb;rw [List.take_length,List.drop_length,List.append_nil]
  have em:((c.aD.map aZ).length:Int)=c.aD.length:=by simp
  have hcr:aI (iT c (n:Nat))=[.sl (c.aC.map aT) false,.sl ((c.aD.map (yJ (n:Nat))).map aZ) false,af c.least]:=rfl;have e22:(jA c (Kv p)).2=(jA c (Kv p)).2:=rfl;obtain ⟨t,d,aw⟩:=p;change Pu false 33 [.ag (aI c),.ag [af t,af d,af aw]] _ at o1;change Pu false 33 [.ag (aI c),.ag [af t,af d,af 2]] _ at o3;change Pu false 45 [.ag (aI c),.ag [af t,af d,af aw]] _ at o2;change Pu false 45 [.ag (aI (iT c (n:Nat))),.ag [af t,af d,af aw]] _ at o4;change Pu false 33 [.ag (aI (iT c (n:Nat))),.ag [af t,af d,af aw]] _ at o5;change Pu false 36 [.ag (aI c),.ag [af t,af d,af aw]] _ at o6;change Pu false 36 [.ag (aI (iT c (n:Nat))),.ag [af t,af d,af aw]] _ at o7;rw [hcr] at o4 o5 o7;show Pu false 15 [.ag (aI c),.ag [af t,af d,af aw],.fl (.int .u16 ((n:Nat):Int))] _
  generalize hT2:kH c (Kv (⟨t,d,aw⟩:bE))=T2 at *
  generalize hml:(jA c (Kv (⟨t,d,aw⟩:bE))).2=ml at *
  generalize hT:kH c (⟨t,d,aw⟩:bE)=T at *
  generalize hmo:(jA c (⟨t,d,aw⟩:bE)).2=mo at *
  generalize hfx:wY c (⟨t,d,aw⟩:bE)=fx at *
  have d0:(!decide ((0:Int)=0))=false:=by decide
  have dm:decide (mo < ml)=false:=decide_eq_false (by omega);refine ak.body (fn:=Tryz.f15) rfl rfl rfl rfl ?_;refine RM.i4 (mu:=fun t=>Nat.beq t 48) ?_;repeat' first|refine u1 ?_|refine u2 ?_|fail
  refine RM.cutAt (st':=⟨aM [(2,.fl (.int .u16 ((n:Nat):Int))),(3,.pt (aI c) 0),(4,.pt [af t,af d,af aw] 0)],[],bq.none,false,0⟩) ?_ ?_
  ·refine aa (mu:=fun t=>Nat.beq t 48) ?_;repeat' first|refine u1 ?_|((with_reducible refine qq3 ?_);refine ak.call o2 rfl rfl ?_)|refine u2 ?_|fail
   exact .is (ah.to 0 rfl ⟨rfl,rfl,rfl,trivial⟩ (qq5 _) rfl rfl)
  refine RM.i4 (mu:=fun t=>Nat.beq t 48) ?_;repeat' first|refine u1 ?_|((with_reducible refine qq3 ?_);refine ak.call o1 rfl rfl ?_)|refine u2 ?_|fail
  refine RM.i4 (mu:=fun t=>Nat.beq t 48) ?_;repeat' first|refine u1 ?_|refine u2 ?_|fail
  refine RM.i4 (mu:=fun t=>Nat.beq t 48) ?_;repeat' first|refine u1 ?_|refine u2 ?_|fail
  refine RM.i4 (mu:=fun t=>Nat.beq t 48) ?_;repeat' first|refine u1 ?_|((with_reducible refine qq3 ?_);refine ak.call o3 rfl rfl ?_)|refine u2 ?_|fail
  refine aB.aO (ah.to (l:=[(2,.fl (.int .u16 ((n:Nat):Int))),(3,.pt (aI c) 0),(4,.pt [af t,af d,af aw] 0),(7,.sl (T.map eL) false),(8,af mo),(9,af 0),(12,af ml),(13,af 0)]) (hp:=[]) 0 rfl ⟨rfl,rfl,rfl,rfl,rfl,rfl,rfl,rfl,trivial⟩ (qq5 _) rfl rfl) ?_;refine RM.i4 (mu:=fun t=>Nat.beq t 48) ?_;repeat' first|refine u1 ?_|refine u2 ?_|fail
  refine RM.i4 (mu:=fun t=>Nat.beq t 48) ?_;repeat' first|refine u1 ?_|((with_reducible show RM.wpOp _ _ (.call _) _ _ _);refine RM.sR (cs:=[]) (n:=0) (c:=0) (els:=c.aD.map aZ) rfl rfl rfl rfl rfl (fun el hel=>by obtain ⟨x,_,rfl⟩:=List.mem_map.1 hel;rfl) (Ij (fun _=>rfl) c.aD) rfl rfl (.inl rfl) (by rw [List.length_map];exact ⟨by show (0+c.aD.length) * 40≤_;omega,by omega⟩) (fun v cc hcc=>?_))|refine u2 ?_|fail
  have hz:0+(c.aD.map aZ).length=c.aD.length:=by rw [List.length_map];omega
  rw [hz];refine aB.aO (ah.to (l:=[(2,.fl (.int .u16 ((n:Nat):Int))),(3,.pt (aI c) 0),(4,.pt [af t,af d,af aw] 0),(7,.sl (T.map eL) false),(8,af mo),(9,af 0),(12,af ml),(13,af 0),(14,.ptr 0 0 0)]) (hp:=[.cells [.sl (c.aC.map aT) false,.aJ 1 v 0 c.aD.length cc,af c.least] 0 0,.cells (mF (Cb (n:Nat) c.aD 0)) 4 v]) 2 rfl ⟨rfl,rfl,rfl,rfl,rfl,rfl,rfl,rfl,rfl,trivial⟩ (qq5 _) rfl (Ae _ _ _ _ _ _)) ?_;clear hcc hz;refine RM.cutAt (st':=⟨aM [(2,.fl (.int .u16 ((n:Nat):Int))),(3,.pt (aI c) 0),(4,.pt [af t,af d,af aw] 0),(7,.sl (T.map eL) false),(8,af mo),(9,af 0),(12,af ml),(13,af 0),(14,.ptr 0 0 0)],[.cells [.sl (c.aC.map aT) false,.aJ 1 v 0 c.aD.length cc,af c.least] 0 0,.cells (mF (Cb (n:Nat) c.aD c.aD.length)) 4 v],bq.none,false,0⟩) ?_ ?_
  ·refine aa (mu:=fun t=>Nat.beq t 48) ?_;repeat' first|refine u1 ?_|refine u2 ?_|fail
   refine aB.aO (ah.to (l:=[(2,.fl (.int .u16 ((n:Nat):Int))),(3,.pt (aI c) 0),(4,.pt [af t,af d,af aw] 0),(7,.sl (T.map eL) false),(8,af mo),(9,af 0),(12,af ml),(13,af 0),(14,.ptr 0 0 0),(15,af (0:Nat))]) (hp:=[.cells [.sl (c.aC.map aT) false,.aJ 1 v 0 c.aD.length cc,af c.least] 0 0,.cells (mF (Cb (n:Nat) c.aD 0)) 4 v]) 2 rfl ⟨rfl,rfl,rfl,rfl,rfl,rfl,rfl,rfl,rfl,rfl,trivial⟩ (qq5 _) rfl (Ae _ _ _ _ _ _)) ?_;refine aB.loop (fun k:Nat=>k≤c.aD.length) (fun k=>⟨aM [(2,.fl (.int .u16 ((n:Nat):Int))),(3,.pt (aI c) 0),(4,.pt [af t,af d,af aw] 0),(7,.sl (T.map eL) false),(8,af mo),(9,af 0),(12,af ml),(13,af 0),(14,.ptr 0 0 0),(15,af (k:Nat))],[.cells [.sl (c.aC.map aT) false,.aJ 1 v 0 c.aD.length cc,af c.least] 0 0,.cells (mF (Cb (n:Nat) c.aD k)) 4 v],bq.none,false,0⟩) (fun k=>c.aD.length - k) ?_ 0 (qq5 _);intro k hk;by_cases hlt:k < c.aD.length
   ·have dl:decide ((k:Int) < (c.aD.length:Int))=true:=decide_eq_true (by omega);have g1:=LY (q:=(n:Nat)) hlt;have hsp:=LZ (q:=(n:Nat)) hlt;have hb:=(hbd _ (List.getElem_mem hlt)).2;have hln:Nat.ble (0+((k:Nat):Int).toNat * 4+2+1) (mF (Cb (n:Nat) c.aD k)).length=true:=Nat.ble_eq_true_of_le (by rw [tf,J1];omega)
    generalize (c.aD[k]).nu=w at *
    refine aa (mu:=fun t=>Nat.beq t 48) ?_;repeat' first|refine u1 ?_|((with_reducible show RM.wpOp _ _ (.convert _ _ _) _ _ _);refine MB rfl hn ?_)|((with_reducible show RM.wpOp _ _ (.load _ _) _ _ _);refine RM.bC rfl rfl rfl g1 ?_)|((with_reducible show aG _ _ _ _ _ _);refine RM.e9 rfl rfl rfl rfl rfl rfl hln ?_)|refine u2 ?_|fail
    exact ⟨k+1,hlt,(by dsimp only;omega),ah.to (l:=[(2,.fl (.int .u16 ((n:Nat):Int))),(3,.pt (aI c) 0),(4,.pt [af t,af d,af aw] 0),(7,.sl (T.map eL) false),(8,af mo),(9,af 0),(12,af ml),(13,af 0),(14,.ptr 0 0 0),(15,af ((k+1):Nat))]) (hp:=[.cells [.sl (c.aC.map aT) false,.aJ 1 v 0 c.aD.length cc,af c.least] 0 0,.cells (mF (Cb (n:Nat) c.aD (k+1))) 4 v]) 2 (by rw [←hsp];rfl) ⟨rfl,rfl,rfl,rfl,rfl,rfl,rfl,rfl,rfl,aE (by omega),trivial⟩ (qq5 _) rfl (Ae _ _ _ _ _ _)⟩
   ·have dl:decide ((k:Int) < (c.aD.length:Int))=false:=decide_eq_false (by omega);have hkn:k=c.aD.length:=by omega
    subst hkn;refine aa (mu:=fun t=>Nat.beq t 48) ?_;repeat' first|refine u1 ?_|refine u2 ?_|fail
    exact .is (ah.to (l:=[(2,.fl (.int .u16 ((n:Nat):Int))),(3,.pt (aI c) 0),(4,.pt [af t,af d,af aw] 0),(7,.sl (T.map eL) false),(8,af mo),(9,af 0),(12,af ml),(13,af 0),(14,.ptr 0 0 0)]) (hp:=[.cells [.sl (c.aC.map aT) false,.aJ 1 v 0 c.aD.length cc,af c.least] 0 0,.cells (mF (Cb (n:Nat) c.aD c.aD.length)) 4 v]) 2 rfl ⟨rfl,rfl,rfl,rfl,rfl,rfl,rfl,rfl,rfl,trivial⟩ (qq5 _) rfl (Ae _ _ _ _ _ _))
  rw [hmen];refine aB.aO (ah.trans (ah.GV 1 (l:=[(2,.fl (.int .u16 ((n:Nat):Int))),(3,.pt (aI c) 0),(4,.pt [af t,af d,af aw] 0),(7,.sl (T.map eL) false),(8,af mo),(9,af 0),(12,af ml),(13,af 0),(14,.ptr 0 0 0)]) (hp':=[.cells [.sl (c.aC.map aT) false,.sl ((c.aD.map (yJ (n:Nat))).map aZ) false,af c.least] 0 0,.gone]) rfl (qq5 _) (Ej _) ⟨.same rfl,.same rfl,.same rfl,.same rfl,.same rfl,.same rfl,.same rfl,.same rfl,.same rfl,trivial⟩ ⟨GB.cells ⟨.same rfl,.row 4 (by rw [tf,List.length_map];omega) (by rw [List.length_map,List.length_map]) (fun el hel=>by obtain ⟨x,_,rfl⟩:=List.mem_map.1 hel;rfl) (by rw [List.drop_zero,List.take_of_length_le (by rw [tf,List.length_map];omega)]) (fun hf=>Bool.noConfusion hf),.same rfl,trivial⟩,rfl,trivial⟩) (ah.trans (ah.giveUp 0 (l:=[(2,.fl (.int .u16 ((n:Nat):Int))),(3,.pt (aI c) 0),(4,.pt [af t,af d,af aw] 0),(7,.sl (T.map eL) false),(8,af mo),(9,af 0),(12,af ml),(13,af 0),(14,.pt [.sl (c.aC.map aT) false,.sl ((c.aD.map (yJ (n:Nat))).map aZ) false,af c.least] 0)]) (hp:=[.gone,.gone]) rfl (qq5 _) rfl ⟨.same rfl,.same rfl,.same rfl,.same rfl,.same rfl,.same rfl,.same rfl,.same rfl,.ptr,trivial⟩ rfl rfl) (ah.to (l:=[(2,.fl (.int .u16 ((n:Nat):Int))),(3,.pt (aI c) 0),(4,.pt [af t,af d,af aw] 0),(7,.sl (T.map eL) false),(8,af mo),(9,af 0),(12,af ml),(13,af 0),(14,.pt [.sl (c.aC.map aT) false,.sl ((c.aD.map (yJ (n:Nat))).map aZ) false,af c.least] 0)]) (hp:=[]) 0 rfl ⟨rfl,rfl,rfl,rfl,rfl,rfl,rfl,rfl,rfl,trivial⟩ (qq5 _) rfl rfl))) ?_
  generalize (c.aD.map (yJ (n:Nat))).map aZ=M at *
  rcases hcp with hcp|hcp
  ·obtain ⟨hg2,_⟩:=pU hcp;have hv:=hsh hg2;have hw:=hfl hg2;rw [hcp,decide_eq_true rfl] at o4;rw [if_pos hcp] at o5;rw [if_pos hcp,hcp] at o7;have ht:kH (iT c (n:Nat)) (⟨t,d,aw⟩:bE)=T:=by rw [←hT];unfold kH;rw [hv]
   rw [ht,hv] at o5;rw [hw] at o7;change Pu false 33 _ (.tp [_,af (mo+(n:Int)),af 0]) at o5;have da:decide (mo+(n:Int)=mo+(n:Int))=true:=by simp
   have db:decide (fx+(n:Int)=fx+(n:Int))=true:=by simp
   have d00:decide ((0:Int)=0)=true:=rfl;refine aa (mu:=fun t=>Nat.beq t 48) ?_;repeat' first|refine u1 ?_|((with_reducible refine qq3 ?_);refine ak.call o4 rfl rfl ?_)|((with_reducible refine qq3 ?_);refine ak.call o5 rfl rfl ?_)|((with_reducible refine qq3 ?_);refine ak.call o6 rfl rfl ?_)|((with_reducible refine qq3 ?_);refine ak.call o7 rfl rfl ?_)|((with_reducible refine qq3 ?_);refine ak.call o8 rfl rfl ?_)|((with_reducible refine qq3 ?_);refine ak.call aw1 rfl rfl ?_)|((with_reducible show RM.wpOp _ _ (.convert _ _ _) _ _ _);refine MB rfl hn ?_)|refine u2 ?_|fail
   exact ⟨[_],⟨Fz.deep rfl,trivial⟩,rfl⟩
  ·rw [hcp,decide_eq_false (by decide)] at o4;rw [if_neg (by rw [hcp];decide),hcp] at o5;refine aa (mu:=fun t=>Nat.beq t 48) ?_;repeat' first|refine u1 ?_|((with_reducible refine qq3 ?_);refine ak.call o4 rfl rfl ?_)|((with_reducible refine qq3 ?_);refine ak.call o5 rfl rfl ?_)|((with_reducible refine qq3 ?_);refine ak.call aw1 rfl rfl ?_)|refine u2 ?_|fail
   exact ⟨[_],⟨Fz.deep rfl,trivial⟩,rfl⟩
 ·rw [decide_eq_false he] at o2;refine ak.body (fn:=Tryz.f15) rfl rfl rfl rfl ?_;refine aa (mu:=fun t=>Nat.beq t 48) ?_;repeat' first|refine u1 ?_|((with_reducible refine qq3 ?_);refine ak.call o2 rfl rfl ?_)|((with_reducible refine qq3 ?_);refine ak.call aw1 rfl rfl ?_)|refine u2 ?_|fail
  exact ⟨[_],⟨Fz.deep rfl,trivial⟩,rfl⟩
