/-
  Contracts of the program's functions and of the document's. Lemmas alone; their conditions stand in them.
-/
import Derived.Test.YtlpmfgmldmdggaaGreatX1
import Derived.Test.YtlpmfgmldmdggaaGreatK3
import Derived.Laws.StructEq
open Go Go.RM
namespace Go.Proofs.YtlpmfgmldmdggaaGreat
set_option maxRecDepth 100000
abbrev Gr:Sh:=.int .i64
abbrev Gs:Sh:=.cons .str (.cons Gr (.cons Gr (.cons Gr (.cons Gr .nil))))
abbrev JQ:Sh:=.cons .str (.cons Gr (.cons Gr (.cons .bool .nil)))
abbrev Gt:Sh:=.cons (.slice Gs) (.cons (.slice JQ) (.cons Gr .nil))
theorem HL {l:List AV} (h:TV Gr l):∃ n,(Lit.int .i64 n).wf=true∧l=eI n:=by
 cases h with
 | int h=>exact ⟨_,h,rfl⟩
theorem Np {l:List AV} (h:TV .bool l):∃ b,l=[BB b]:=by
 cases h with
 | bool=>exact ⟨_,rfl⟩
theorem MQ {l:List AV} (h:TV .str l):∃ s:ByteArray,s.size≤maxLen∧l=[ST s]:=by
 cases h with
 | str h=>exact ⟨_,h,rfl⟩
theorem CM {a b:Sh} {l:List AV} (h:TV (.cons a b) l):∃ x y,TV a x∧TV b y∧l=x++y:=by
 cases h with
 | cons h k=>exact ⟨_,_,h,k,rfl⟩
theorem Mm {l:List AV} (h:TV .nil l):l=[]:=by cases h;rfl
theorem MR {s:Sh} {l:List AV} (h:TV (.slice s) l):∃ els,els.length≤maxLen∧(∀ el ∈ els,TV s el)∧l=[.sl els false]:=by
 cases h with
 | slice h k=>exact ⟨_,h,k,rfl⟩
theorem Gu {α:Type} {e:α→List AV} {P:α→Prop}:∀ {els:List (List AV)},(∀ el ∈ els,∃ x,P x∧el=e x)→∃ l:List α,(∀ x ∈ l,P x)∧els=l.map e
 | [],_=>⟨[],⟨List.forall_mem_nil _,rfl⟩⟩
 | el :: els,h=>by obtain ⟨x,hx,rfl⟩:=h el (by simp);obtain ⟨l,hl,rfl⟩:=Gu fun el hel=>h el (List.mem_cons_of_mem _ hel);exact ⟨x :: l,⟨qq8 ⟨hx,hl⟩,rfl⟩⟩
theorem Kj {l:List AV} (h:TV Gs l):∃ x:fk,x.name.data.toList.length≤maxLen∧l=aX x:=by obtain ⟨_,_,h1,k1,rfl⟩:=CM h;obtain ⟨_,_,h2,k2,rfl⟩:=CM k1;obtain ⟨_,_,h3,k3,rfl⟩:=CM k2;obtain ⟨_,_,h4,k4,rfl⟩:=CM k3;obtain ⟨_,_,h5,k5,rfl⟩:=CM k4;obtain rfl:=Mm k5;obtain ⟨a,ha,rfl⟩:=MQ h1;obtain ⟨b,_,rfl⟩:=HL h2;obtain ⟨c,_,rfl⟩:=HL h3;obtain ⟨d,_,rfl⟩:=HL h4;obtain ⟨e,_,rfl⟩:=HL h5;exact ⟨⟨a,b,c,d,e⟩,by simpa using ha,rfl⟩
theorem LO {l:List AV} (h:TV JQ l):∃ x:nh,x.name.data.toList.length≤maxLen∧l=bq x:=by obtain ⟨_,_,h1,k1,rfl⟩:=CM h;obtain ⟨_,_,h2,k2,rfl⟩:=CM k1;obtain ⟨_,_,h3,k3,rfl⟩:=CM k2;obtain ⟨_,_,h4,k4,rfl⟩:=CM k3;obtain rfl:=Mm k4;obtain ⟨a,ha,rfl⟩:=MQ h1;obtain ⟨b,_,rfl⟩:=HL h2;obtain ⟨c,_,rfl⟩:=HL h3;obtain ⟨d,rfl⟩:=Np h4;exact ⟨⟨a,b,c,d⟩,by simpa using ha,rfl⟩
theorem Kk {l:List AV} (h:TV Gt l):∃ c:aS,c.Ok∧l=aM c:=by obtain ⟨_,_,h1,k1,rfl⟩:=CM h;obtain ⟨_,_,h2,k2,rfl⟩:=CM k1;obtain ⟨_,_,h3,k3,rfl⟩:=CM k2;obtain rfl:=Mm k3;obtain ⟨a,ha,ha',rfl⟩:=MR h1;obtain ⟨a,hn,rfl⟩:=Gu (e:=aX) fun el hel=>Kj (ha' el hel);obtain ⟨b,hb,hb',rfl⟩:=MR h2;obtain ⟨b,hm,rfl⟩:=Gu (e:=bq) fun el hel=>LO (hb' el hel);obtain ⟨d,_,rfl⟩:=HL h3;exact ⟨⟨a,b,d⟩,⟨by simpa using ha,hn,by simpa using hb,hm⟩,rfl⟩
theorem LQ:∀ e ∈ TB,gn TT e:=by intro e he;unfold TB at he;rw [List.mem_singleton.1 he];exact LK
end Go.Proofs.YtlpmfgmldmdggaaGreat
open Go Go.RM
namespace Go.Proofs.YtlpmfgmldmdggaaGreat
set_option maxRecDepth 100000
end Go.Proofs.YtlpmfgmldmdggaaGreat
open Go Go.RM
namespace Go.Proofs.YtlpmfgmldmdggaaGreat
set_option maxRecDepth 100000
end Go.Proofs.YtlpmfgmldmdggaaGreat
open Go Go.RM
namespace Go.Proofs.YtlpmfgmldmdggaaGreat
set_option maxRecDepth 100000
end Go.Proofs.YtlpmfgmldmdggaaGreat
open Go Go.RM
namespace Go.Proofs.YtlpmfgmldmdggaaGreat
set_option maxRecDepth 100000
set_option maxHeartbeats 4000000
end Go.Proofs.YtlpmfgmldmdggaaGreat
open Go Go.RM
namespace Go.Proofs.YtlpmfgmldmdggaaGreat
set_option maxRecDepth 100000
set_option maxHeartbeats 4000000
end Go.Proofs.YtlpmfgmldmdggaaGreat
open Go Go.RM
namespace Go.RM
end Go.RM
namespace Go.Proofs.YtlpmfgmldmdggaaGreat
set_option maxRecDepth 100000
set_option maxHeartbeats 4000000
theorem oO {α:Type} {g:α→AV} (h:∀ x,(g x).deep=true):∀ l:List α,cZ (l.map g)=true
 | []=>rfl
 | x :: l=>by show ((g x).deep && cZ (l.map g))=true;rw [h x,oO h l];rfl
theorem iu {α:Type} (n:Nat) {g:α→AV} (h:∀ x,(g x).i5 n=true):∀ l:List α,sW n (l.map g)=true
 | []=>rfl
 | x :: l=>by show ((g x).i5 n && sW n (l.map g))=true;rw [h x,iu n h l];rfl
abbrev ay (l:List Int):List AV:=l.map af
theorem gi:∀ l:List Int,(ints l).flatten=ay l
 | []=>rfl
 | x :: l=>by show af x :: (ints l).flatten=_;rw [gi l];rfl
theorem yy (l:List Int):cZ (ay l)=true:=oO (fun _=>rfl) l
theorem Gw (j:Nat) (l:List Int) (v:Nat):AB.i5 j (.cells (ay l) 1 v)=true:=iu j (fun _=>rfl) _
theorem av (l:List Int) (v:Nat):([.cells (ay l) 1 v]:List AB).all (AB.i5 1)=true:=by simp only [List.all_cons,List.all_nil,Gw,Bool.and_true]
theorem rO {hp:List AB} {j v cc n:Nat} {l:List Int} (hj:hp[j]?=some (.cells (ay l) 1 v)) (hn:l.length=n):Fz hp (.aI j v 0 n cc) (.sl (ints l) false) :=
 Fz.row (es:=1) hj (by rw [List.length_map];omega) (by rw [List.length_map];exact hn) (fun el hel=>by obtain ⟨x,_,rfl⟩:=List.mem_map.1 hel;rfl) (by rw [gi,List.drop_zero,List.take_of_length_le (by rw [List.length_map];omega)]) (by rw [gi];exact yy _) (fun h=>Bool.noConfusion h)
end Go.Proofs.YtlpmfgmldmdggaaGreat
open Go Go.RM
namespace Go.Proofs.YtlpmfgmldmdggaaGreat
set_option maxRecDepth 100000
set_option maxHeartbeats 4000000
theorem wL {S:List Int} {k:Nat} {x:Int} (h:S[k]?=some x):(ay S)[0+((k:Nat):Int).toNat * 1]?=some (af x):=by rw [Int.toNat_natCast,Nat.zero_add,Nat.mul_one,List.getElem?_map,h];rfl
theorem rP {S:List Int} {k:Nat} (h:k < S.length) (x:Int):aQ (ay S) [af x] (0+((k:Nat):Int).toNat * 1)=ay (S.set k x):=by rw [Int.toNat_natCast,Nat.zero_add,Nat.mul_one];unfold aQ;show _=(S.set k x).map af;rw [List.map_set,List.set_eq_take_append_cons_drop,if_pos (by rw [List.length_map];exact h),List.length_singleton,List.append_assoc];rfl
end Go.Proofs.YtlpmfgmldmdggaaGreat
open Go Go.RM
namespace Go.Proofs.YtlpmfgmldmdggaaGreat
set_option maxRecDepth 100000
set_option maxHeartbeats 4000000
end Go.Proofs.YtlpmfgmldmdggaaGreat
open Go Go.RM
namespace Go.Proofs.YtlpmfgmldmdggaaGreat
set_option maxRecDepth 100000
set_option maxHeartbeats 4000000
theorem EA (one:Bool) (a:List Int) (f g:Bool) (hb:a.length≤maxLen):Pu one 25 [.sl (ints a) f,.sl (ints a) g] (BB true):=by
 have mb:a.length≤9223372036854775807:=Nat.le_trans hb (by simp [maxLen]);have ea:((a.map eI).length:Int)=a.length:=by simp
 have d0:(!decide (((a.map eI).length:Int)=((a.map eI).length:Int)))=false:=by rw [decide_eq_true rfl];rfl
 refine ak.body (fn:=Tryz.f25) rfl rfl rfl rfl ?_;refine qq1 ?_;repeat' first|refine u1 ?_|refine u2 ?_|fail
 refine aB.aP (ah.to (l:=[(0,.sl (a.map eI) f),(1,.sl (a.map eI) g),(5,af (0:Nat))]) (hp:=[]) 0 rfl ⟨rfl,rfl,rfl,trivial⟩ (qq5 _) rfl rfl) ?_;refine aB.loop (fun k:Nat=>k≤a.length) (fun k=>⟨aL [(0,.sl (a.map eI) f),(1,.sl (a.map eI) g),(5,af (k:Nat))],[],bp.none,false,0⟩) (fun k=>a.length - k) ?_ 0 (qq5 _);intro k hk;by_cases hlt:k < a.length
 ·have d1:decide ((k:Int) < ((a.map eI).length:Int))=true:=decide_eq_true (by omega);have hat:(a.map eI)[((k:Nat):Int).toNat]?=some (eI a[k]):=dB hlt
  generalize a[k]=x at *
  have d2:(!decide (x=x))=false:=by rw [decide_eq_true rfl];rfl
  refine qq1 ?_;repeat' first|refine u1 ?_|((with_reducible refine qq4 ?_);refine ⟨eI x,⟨by omega,hat⟩,rfl,?_⟩)|refine u2 ?_|fail
  exact ⟨k+1,hlt,(by dsimp only;omega),ah.to 0 rfl ⟨rfl,rfl,aD (by simp),trivial⟩ (qq5 _) rfl rfl⟩
 ·have d1:decide ((k:Int) < ((a.map eI).length:Int))=false:=decide_eq_false (by omega);refine qq1 ?_;repeat' first|refine u1 ?_|refine u2 ?_|fail
  exact ⟨[_],⟨Fz.deep rfl,trivial⟩,rfl⟩
end Go.Proofs.YtlpmfgmldmdggaaGreat
open Go Go.RM
namespace Go.Proofs.YtlpmfgmldmdggaaGreat
set_option maxRecDepth 100000
theorem ID {v cc n:Nat} {S:List Int} (h:S.length=n):Gv 0 v (ay S) (.aI 0 v 0 n cc) (.sl (ints S) false) :=
 .row 1 (by rw [List.length_map];omega) (by rw [List.length_map];exact h) (fun el hel=>by obtain ⟨x,_,rfl⟩:=List.mem_map.1 hel;rfl) (by rw [gi,List.drop_zero,List.take_of_length_le (by rw [List.length_map];omega)]) (fun h=>Bool.noConfusion h)
end Go.Proofs.YtlpmfgmldmdggaaGreat
open Go Go.RM
namespace Go.Proofs.YtlpmfgmldmdggaaGreat
set_option maxRecDepth 100000
set_option maxHeartbeats 4000000
structure dm where
 turns:Int
 days:Int
 aN:Int
abbrev cw (p:dm):List AV:=[af p.turns,af p.days,af p.aN]
def Mn (t d w:Int):Int:=if jP t 1 4=false then 7 else if jP d 1 60=false then 7 else if jP w 1 2=false then 7 else 0
def sg (c:aS) (p:dm):Int:=if (oY c).2.2 ≠ 0 then (oY c).2.2 else Mn p.turns p.days p.aN
structure wM (p:dm):Prop where
 turns:1≤p.turns∧p.turns≤4
 days:1≤p.days∧p.days≤60
 aN:1≤p.aN∧p.aN≤2
theorem yz {c:aS} {p:dm} (h:sg c p=0):Good c∧wM p:=by
 unfold sg at h;split at h
 ·rename_i h1;exact absurd h h1
 rename_i h1;refine ⟨Ki (Decidable.not_not.1 h1),?_⟩;unfold Mn at h;split at h
 ·cases h
 rename_i h2;split at h
 ·cases h
 rename_i h3;split at h
 ·cases h
 rename_i h4;exact ⟨gh.1 ((Bool.not_eq_false _).mp h2),gh.1 ((Bool.not_eq_false _).mp h3),gh.1 ((Bool.not_eq_false _).mp h4)⟩
theorem uc (one:Bool) (c:aS) (h:c.Ok) (p:dm):Pu one 29 [.ag (aM c),.ag (cw p)] (af (sg c p)):=by
 have o1:=IB one c h;have o2:=jJ one 1 4 p.turns;have o3:=jJ one 1 60 p.days;have o4:=jJ one 1 2 p.aN;rw [cT] at o2 o3 o4;unfold sg Mn;obtain ⟨t,d,w⟩:=p
 dsimp only at *
 generalize (oY c).1=a1 at *
 generalize (oY c).2.1=a2 at *
 by_cases e:(oY c).2.2=0
 ·rw [if_neg (by rw [e];simp)];rw [e] at o1;have d0:(!decide ((0:Int)=0))=false:=by decide
  cases e2:jP t 1 4 with
  | false =>
   rw [e2] at o2;rw [if_pos rfl];refine ak.body (fn:=Tryz.f29) rfl rfl rfl rfl ?_;refine qq1 ?_;repeat' first|refine u1 ?_|((with_reducible refine qq3 ?_);refine ak.call o1 rfl rfl ?_)|((with_reducible refine qq3 ?_);refine ak.call o2 rfl rfl ?_)|refine u2 ?_|fail
   exact ⟨[_],⟨Fz.deep rfl,trivial⟩,rfl⟩
  | true =>
   rw [e2] at o2;rw [if_neg (by decide)]
   cases e3:jP d 1 60 with
   | false =>
    rw [e3] at o3;rw [if_pos rfl];refine ak.body (fn:=Tryz.f29) rfl rfl rfl rfl ?_;refine qq1 ?_;repeat' first|refine u1 ?_|((with_reducible refine qq3 ?_);refine ak.call o1 rfl rfl ?_)|((with_reducible refine qq3 ?_);refine ak.call o2 rfl rfl ?_)|((with_reducible refine qq3 ?_);refine ak.call o3 rfl rfl ?_)|refine u2 ?_|fail
    exact ⟨[_],⟨Fz.deep rfl,trivial⟩,rfl⟩
   | true =>
    rw [e3] at o3;rw [if_neg (by decide)]
    cases e4:jP w 1 2 with
    | false =>
     rw [e4] at o4;rw [if_pos rfl];refine ak.body (fn:=Tryz.f29) rfl rfl rfl rfl ?_;refine qq1 ?_;repeat' first|refine u1 ?_|((with_reducible refine qq3 ?_);refine ak.call o1 rfl rfl ?_)|((with_reducible refine qq3 ?_);refine ak.call o2 rfl rfl ?_)|((with_reducible refine qq3 ?_);refine ak.call o3 rfl rfl ?_)|((with_reducible refine qq3 ?_);refine ak.call o4 rfl rfl ?_)|refine u2 ?_|fail
     exact ⟨[_],⟨Fz.deep rfl,trivial⟩,rfl⟩
    | true =>
     rw [e4] at o4;rw [if_neg (by decide)];refine ak.body (fn:=Tryz.f29) rfl rfl rfl rfl ?_;refine qq1 ?_;repeat' first|refine u1 ?_|((with_reducible refine qq3 ?_);refine ak.call o1 rfl rfl ?_)|((with_reducible refine qq3 ?_);refine ak.call o2 rfl rfl ?_)|((with_reducible refine qq3 ?_);refine ak.call o3 rfl rfl ?_)|((with_reducible refine qq3 ?_);refine ak.call o4 rfl rfl ?_)|refine u2 ?_|fail
     exact ⟨[_],⟨Fz.deep rfl,trivial⟩,rfl⟩
 ·rw [if_pos e];have d1:(!decide ((oY c).2.2=0))=true:=by rw [decide_eq_false e];rfl
  generalize (oY c).2.2=e5 at *
  refine ak.body (fn:=Tryz.f29) rfl rfl rfl rfl ?_;refine qq1 ?_;repeat' first|refine u1 ?_|((with_reducible refine qq3 ?_);refine ak.call o1 rfl rfl ?_)|refine u2 ?_|fail
  exact ⟨[_],⟨Fz.deep rfl,trivial⟩,rfl⟩
theorem rQ (one:Bool) (c:aS) (h:c.Ok) (p:dm):Pu one 30 [.ag (aM c),.ag (cw p)] (af (sg c p)):=by
 have o1:=Gk one c h;have o2:=iT one p.turns 1 4;have o3:=iT one p.days 1 60;have o4:=iT one p.aN 1 2;unfold sg Mn;obtain ⟨t,d,w⟩:=p
 dsimp only at *
 generalize (oY c).1=a1 at *
 generalize (oY c).2.1=a2 at *
 by_cases e:(oY c).2.2=0
 ·rw [if_neg (by rw [e];simp)];rw [e] at o1;have d0:decide ((0:Int)=0)=true:=by decide
  cases e2:jP t 1 4 with
  | false =>
   rw [e2] at o2;rw [if_pos rfl];refine ak.body (fn:=Tryz.f30) rfl rfl rfl rfl ?_;refine qq1 ?_;repeat' first|refine u1 ?_|((with_reducible refine qq3 ?_);refine ak.call o1 rfl rfl ?_)|((with_reducible refine qq3 ?_);refine ak.call o2 rfl rfl ?_)|refine u2 ?_|fail
   exact ⟨[_],⟨Fz.deep rfl,trivial⟩,rfl⟩
  | true =>
   rw [e2] at o2;rw [if_neg (by decide)]
   cases e3:jP d 1 60 with
   | false =>
    rw [e3] at o3;rw [if_pos rfl];refine ak.body (fn:=Tryz.f30) rfl rfl rfl rfl ?_;refine qq1 ?_;repeat' first|refine u1 ?_|((with_reducible refine qq3 ?_);refine ak.call o1 rfl rfl ?_)|((with_reducible refine qq3 ?_);refine ak.call o2 rfl rfl ?_)|((with_reducible refine qq3 ?_);refine ak.call o3 rfl rfl ?_)|refine u2 ?_|fail
    exact ⟨[_],⟨Fz.deep rfl,trivial⟩,rfl⟩
   | true =>
    rw [e3] at o3;rw [if_neg (by decide)]
    cases e4:jP w 1 2 with
    | false =>
     rw [e4] at o4;rw [if_pos rfl];refine ak.body (fn:=Tryz.f30) rfl rfl rfl rfl ?_;refine qq1 ?_;repeat' first|refine u1 ?_|((with_reducible refine qq3 ?_);refine ak.call o1 rfl rfl ?_)|((with_reducible refine qq3 ?_);refine ak.call o2 rfl rfl ?_)|((with_reducible refine qq3 ?_);refine ak.call o3 rfl rfl ?_)|((with_reducible refine qq3 ?_);refine ak.call o4 rfl rfl ?_)|refine u2 ?_|fail
     exact ⟨[_],⟨Fz.deep rfl,trivial⟩,rfl⟩
    | true =>
     rw [e4] at o4;rw [if_neg (by decide)];refine ak.body (fn:=Tryz.f30) rfl rfl rfl rfl ?_;refine qq1 ?_;repeat' first|refine u1 ?_|((with_reducible refine qq3 ?_);refine ak.call o1 rfl rfl ?_)|((with_reducible refine qq3 ?_);refine ak.call o2 rfl rfl ?_)|((with_reducible refine qq3 ?_);refine ak.call o3 rfl rfl ?_)|((with_reducible refine qq3 ?_);refine ak.call o4 rfl rfl ?_)|refine u2 ?_|fail
     exact ⟨[_],⟨Fz.deep rfl,trivial⟩,rfl⟩
 ·rw [if_pos e];have d1:decide ((oY c).2.2=0)=false:=decide_eq_false e
  generalize (oY c).2.2=e5 at *
  refine ak.body (fn:=Tryz.f30) rfl rfl rfl rfl ?_;refine qq1 ?_;repeat' first|refine u1 ?_|((with_reducible refine qq3 ?_);refine ak.call o1 rfl rfl ?_)|refine u2 ?_|fail
  exact ⟨[_],⟨Fz.deep rfl,trivial⟩,rfl⟩
def kE (l:List Int) (n:Int):Bool:=l.any fun x=>decide (x=n)
theorem GC {l:List Int} {k:Nat} {z:Int} (h:l[k]?=some z) (n:Int):kE (l.take (k+1)) n=(kE (l.take k) n || decide (z=n)):=by unfold kE;rw [List.take_add_one,h,List.any_append];simp
theorem GD (one:Bool) (l:List Int) (f:Bool) (hl:l.length≤maxLen) (n:Int):Pu one 112 [.sl (ints l) f,af n] (BB (kE l n)):=by
 have el:((ints l).length:Int)=l.length:=by simp
 have hl':l.length≤maxLen:=hl;simp only [maxLen] at hl';refine ak.body (fn:=Tryz.f112) rfl rfl rfl rfl ?_;refine qq1 ?_;repeat' first|refine u1 ?_|refine u2 ?_|fail
 refine aB.aP (ah.to (l:=[(0,.sl (ints l) f),(1,af n),(5,af ((0:Nat):Int))]) (hp:=[]) 0 rfl ⟨rfl,rfl,rfl,trivial⟩ (qq5 _) rfl rfl) ?_;refine aB.loop (fun k:Nat=>k≤l.length∧kE (l.take k) n=false) (fun k=>⟨aL [(0,.sl (ints l) f),(1,af n),(5,af ((k:Nat):Int))],[],bp.none,false,0⟩) (fun k=>l.length - k) ?_ 0 ⟨qq5 _,rfl⟩;rintro k ⟨hk,hno⟩;by_cases hlt:k < l.length
 ·have dl:decide ((k:Int) < ((ints l).length:Int))=true:=decide_eq_true (by omega);have hat:(ints l)[((k:Nat):Int).toNat]?=some (eI l[k]):=dB hlt;have ht:=GC (List.getElem?_eq_getElem hlt) n;rw [hno,Bool.false_or] at ht;have hall:decide (l[k]=n)=true→kE l n=true:=fun h=>by unfold kE;exact List.any_eq_true.2 ⟨l[k],List.getElem_mem hlt,h⟩
  generalize l[k]=z at *
  cases e:decide (z=n) with
  | true =>
   have hz:kE l n=true:=hall e;rw [hz];refine qq1 ?_;repeat' first|refine u1 ?_|(refine ⟨[af z],⟨by omega,hat⟩,rfl,?_⟩)|refine u2 ?_|fail
   exact ⟨[_],⟨Fz.deep rfl,trivial⟩,rfl⟩
  | false =>
   refine qq1 ?_;repeat' first|refine u1 ?_|(refine ⟨[af z],⟨by omega,hat⟩,rfl,?_⟩)|refine u2 ?_|fail
   exact ⟨k+1,⟨hlt,by rw [ht,e]⟩,(by dsimp only;omega),ah.to 0 rfl ⟨rfl,rfl,aD (by simp),trivial⟩ (qq5 _) rfl rfl⟩
 ·have dl:decide ((k:Int) < ((ints l).length:Int))=false:=decide_eq_false (by omega);have e:kE l n=false:=by rw [List.take_of_length_le (by omega)] at hno;exact hno
  rw [e];refine qq1 ?_;repeat' first|refine u1 ?_|refine u2 ?_|fail
  exact ⟨[_],⟨Fz.deep rfl,trivial⟩,rfl⟩
def Ll (w e t d n:Int):Int:=w+(t - n) * e * d - n * 1000 * d
def ct (c:aS) (p:dm) (i:Nat) (n:Int):Int:=Ll (Gp c i) (CL c i) p.turns p.days n
theorem LV {w e t d n:Int} (he:0≤e∧e≤1000) (ht:1≤t∧t≤4) (hd:1≤d∧d≤60) (hn:0≤n∧n≤t) :
  (0≤(t - n) * e∧(t - n) * e≤4000)∧(0≤(t - n) * e * d∧(t - n) * e * d≤240000)∧(0≤n * 1000 * d∧n * 1000 * d≤240000)∧(-340000≤d * ((t - n) * e - n * 1000)∧d * ((t - n) * e - n * 1000)≤340000)∧w+d * ((t - n) * e - n * 1000)=Ll w e t d n:=by
 have h1:=Gn (dd:=t - n) (e:=e) (by omega) he;have h0:(t - n) * e≤4000:=by omega
 have h2:=Gn (dd:=(t - n) * e) (e:=d) h1.1 ⟨by omega,by omega⟩;have h3:=Gn (dd:=n * 1000) (e:=d) (by omega) ⟨by omega,by omega⟩;have h4:d * ((t - n) * e - n * 1000)=(t - n) * e * d - n * 1000 * d:=by rw [Int.mul_comm,Int.sub_mul]
 have q2:(t - n) * e * d≤4000 * 60:=by
  calc (t - n) * e * d≤(t - n) * e * 60:=Int.mul_le_mul_of_nonneg_left hd.2 h1.1
   _≤4000 * 60:=by omega
 have q3:n * 1000 * d≤4000 * 60:=by
  calc n * 1000 * d≤n * 1000 * 60:=Int.mul_le_mul_of_nonneg_left hd.2 (by omega)
   _≤4000 * 60:=by omega
 unfold Ll;rw [h4]
 generalize (t - n) * e * d=x at *
 generalize n * 1000 * d=y at *
 generalize (t - n) * e=z at *
 omega
theorem rR {c:aS} (hg:Good c) {k:Nat} (hlt:k < c.aH.length):∃ (mn:ByteArray) (rk w:Int) (ms:Bool) (ra:ByteArray) (rb rc rd e:Int),
  (c.aH.map bq)[((k:Nat):Int).toNat]?=some [ST mn,af rk,af w,BB ms]∧(c.aE.map aX)[rk.toNat]?=some [ST ra,af rb,af rc,af rd,af e]∧(0≤rk∧rk < c.aE.length)∧(0≤e∧e≤1000)∧(-100000≤w∧w≤100000)∧Gp c k=w∧CL c k=e∧(c.aH[k]?).map nh.kL=some rk:=by
 have hm:=hg.ME _ (List.getElem_mem hlt);have hrl:c.aH[k].kL.toNat < c.aE.length:=by omega
 have hr:=hg.kL _ (List.getElem_mem hrl);refine ⟨c.aH[k].name,c.aH[k].kL,c.aH[k].rM,c.aH[k].F6,c.aE[c.aH[k].kL.toNat].name,c.aE[c.aH[k].kL.toNat].EV,c.aE[c.aH[k].kL.toNat].leave,c.aE[c.aH[k].kL.toNat].EW,c.aE[c.aH[k].kL.toNat].rL,dB hlt,?_,hm.1,hr.2.2.2,hm.2,?_,?_,?_⟩
 ·rw [List.getElem?_map,List.getElem?_eq_getElem hrl];rfl
 ·unfold Gp;rw [List.getElem?_eq_getElem hlt];rfl
 ·unfold CL Gl;rw [List.getElem?_eq_getElem hlt];show ((c.aE[c.aH[k].kL.toNat]?).map fk.rL).getD 0=_;rw [List.getElem?_eq_getElem hrl];rfl
 ·rw [List.getElem?_eq_getElem hlt];rfl
theorem s9 (one:Bool) (c:aS) (hg:Good c) (p:dm) (hp:wM p) (i:Nat) (hi:i < c.aH.length) (n:Int) (hn:0≤n∧n≤p.turns):Pu one 90 [.ag (aM c),.ag (cw p),af (i:Int),af n] (af (ct c p i n)):=by
 have em:((c.aH.map bq).length:Int)=c.aH.length:=by simp
 have eg:((c.aE.map aX).length:Int)=c.aE.length:=by simp
 obtain ⟨mn,rk,w,ms,ra,rb,rc,rd,e,hmt,hrt,hrk,hb1,hb2,h01,h02,_⟩:=rR hg (k:=i) hi;unfold ct;rw [h01,h02];obtain ⟨t,d,aw⟩:=p;obtain ⟨p1,p2,p3⟩:=hp
 dsimp only at *
 have hq:=LV (w:=w) hb1 p1 p2 hn;have hbi:Ll w e t d n=w+(t - n) * e * d - n * 1000 * d:=rfl;rw [hbi] at hq ⊢;obtain ⟨q1,q2,q3,_,_⟩:=hq;clear hbi;show Pu one 90 [.ag (aM c),.ag [af t,af d,af aw],af (i:Int),af n] _;refine ak.body (fn:=Tryz.f90) rfl rfl rfl rfl ?_;refine qq1 ?_;repeat' first|refine u1 ?_|(refine ⟨[ST mn,af rk,af w,BB ms],⟨by omega,hmt⟩,rfl,?_⟩)|(refine ⟨[ST ra,af rb,af rc,af rd,af e],⟨by omega,hrt⟩,rfl,?_⟩)|refine u2 ?_|fail
 exact ⟨[_],⟨Fz.deep rfl,trivial⟩,rfl⟩
end Go.Proofs.YtlpmfgmldmdggaaGreat
open Go Go.RM
namespace Go.Proofs.YtlpmfgmldmdggaaGreat
set_option maxRecDepth 100000
abbrev JS:Sh:=.cons Gr (.cons Gr (.cons Gr .nil))
theorem LW {l:List AV} (h:TV JS l):∃ p:dm,l=cw p:=by obtain ⟨_,_,h1,k1,rfl⟩:=CM h;obtain ⟨_,_,h2,k2,rfl⟩:=CM k1;obtain ⟨_,_,h3,k3,rfl⟩:=CM k2;obtain rfl:=Mm k3;obtain ⟨a,_,rfl⟩:=HL h1;obtain ⟨b,_,rfl⟩:=HL h2;obtain ⟨d,_,rfl⟩:=HL h3;exact ⟨⟨a,b,d⟩,rfl⟩
end Go.Proofs.YtlpmfgmldmdggaaGreat
open Go Go.RM
namespace Go.Proofs.YtlpmfgmldmdggaaGreat
set_option maxRecDepth 100000
set_option maxHeartbeats 4000000
abbrev tc (c:aS) (p:dm) (m0 m1 m2:Nat):List AV:=[.sl (c.aE.map aX) false,.sl (c.aH.map bq) false,af c.least,af p.turns,af p.days,af p.aN,af (m0:Nat),af (m1:Nat),af (m2:Nat)]
def kF (a m:Nat):Bool:=!decide ((m:Int)=0) && decide (((m &&& (18446744073709551615 - a):Nat):Int)=0)
def zM (m0 m1 m2 a:Nat):Bool:=!(kF a m0 || (kF a m1 || kF a m2))
theorem CO (one:Bool) (a m:Nat) (ha:a < 32) (hm:m < 32):ak TT TB one (.fn 111 [] [.pt [af (a:Nat)] 0]) [af (m:Nat)] (BB (kF a m)):=by
 unfold kF
 cases e1:decide ((m:Int)=0) with
 | true =>
  have e2:(!decide ((m:Int)=0))=false:=by rw [e1];rfl
  refine ak.body (fn:=Tryz.f111) rfl rfl rfl rfl ?_;refine qq1 ?_;repeat' first|refine u1 ?_|refine u2 ?_|fail
  exact ⟨[_],⟨Fz.deep rfl,trivial⟩,rfl⟩
 | false =>
  have e2:(!decide ((m:Int)=0))=true:=by rw [e1];rfl
  refine ak.body (fn:=Tryz.f111) rfl rfl rfl rfl ?_;refine qq1 ?_;repeat' first|refine u1 ?_|((with_reducible show aV _ _ _ _ _ _ _ _ _);refine RM.Km (m:=m) (n:=a) rfl rfl (by omega) (by omega) ?_)|refine u2 ?_|fail
  exact ⟨[_],⟨Fz.deep rfl,trivial⟩,rfl⟩
theorem GF (one:Bool) (c:aS) (p:dm) (m0 m1 m2 a:Nat) (h0:m0 < 32) (h1:m1 < 32) (h2:m2 < 32) (ha:a < 32):Pu one 79 [.ag (tc c p m0 m1 m2),af (a:Nat)] (BB (zM m0 m1 m2 a)):=by
 have o1:=l6 one 111 [] [.pt [af (a:Nat)] 0] rfl (fun x=>kF a x.toNat) [(m0:Int),(m1:Int),(m2:Int)] true (by simp [maxLen]) (fun x hx=>by
  rcases List.mem_cons.1 hx with rfl|hx
  ·exact CO one a m0 ha h0
  ·rcases List.mem_cons.1 hx with rfl|hx
   ·exact CO one a m1 ha h1
   ·rw [List.mem_singleton.1 hx]
    exact CO one a m2 ha h2)
 have e:([(m0:Int),(m1:Int),(m2:Int)].any fun x=>kF a x.toNat)=(kF a m0 || (kF a m1 || kF a m2)):=by simp only [List.any_cons,List.any_nil,Bool.or_false,Int.toNat_natCast]
 rw [e] at o1;unfold zM
 generalize (kF a m0 || (kF a m1 || kF a m2))=b at *
 refine ak.body (fn:=Tryz.f79) rfl rfl rfl rfl ?_;refine qq1 ?_;repeat' first|(refine RM.Nq (els:=ints [(m0:Int),(m1:Int),(m2:Int)]) rfl rfl (Nat.le_of_ble_eq_true rfl) (Nat.le_of_ble_eq_true rfl) ⟨rfl,(fun el hel=>by obtain ⟨x,_,rfl⟩:=List.mem_map.1 hel;rfl),rfl⟩ ?_)|((with_reducible refine qq3 ?_);refine ak.call o1 rfl rfl ?_)|refine u1 ?_|refine u2 ?_|fail
 exact ⟨[_],⟨Fz.deep rfl,trivial⟩,rfl⟩
theorem wN (one:Bool) (c:aS) (hg:Good c) (p:dm) (hp:wM p) (m0 m1 m2:Nat) (i:Nat) (hi:i < c.aH.length) (n:Int) (hn:0≤n∧n≤p.turns):Pu one 80 [.ag (tc c p m0 m1 m2),af (i:Int),af n] (af (ct c p i n)):=by
 have em:((c.aH.map bq).length:Int)=c.aH.length:=by simp
 have eg:((c.aE.map aX).length:Int)=c.aE.length:=by simp
 obtain ⟨mn,rk,w,ms,ra,rb,rc,rd,e,hmt,hrt,hrk,hb1,hb2,h01,h02,_⟩:=rR hg (k:=i) hi;unfold ct;rw [h01,h02];obtain ⟨t,d,aw⟩:=p;obtain ⟨p1,p2,p3⟩:=hp
 dsimp only at *
 have hq:=LV (w:=w) hb1 p1 p2 hn;obtain ⟨q1,q2,q3,q4,q5⟩:=hq;have hbi:-440000≤Ll w e t d n∧Ll w e t d n≤600000:=by omega
 rw [←q5];show Pu one 80 [.ag [.sl (c.aE.map aX) false,.sl (c.aH.map bq) false,af c.least,af t,af d,af aw,af (m0:Nat),af (m1:Nat),af (m2:Nat)],af (i:Int),af n] _;refine ak.body (fn:=Tryz.f80) rfl rfl rfl rfl ?_;refine qq1 ?_;repeat' first|refine u1 ?_|(refine ⟨[ST mn,af rk,af w,BB ms],⟨by omega,hmt⟩,rfl,?_⟩)|(refine ⟨[ST ra,af rb,af rc,af rd,af e],⟨by omega,hrt⟩,rfl,?_⟩)|refine u2 ?_|fail
 exact ⟨[_],⟨Fz.deep rfl,trivial⟩,rfl⟩
