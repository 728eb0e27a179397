/-
  Contracts of the program's functions and of the document's. Lemmas alone; their conditions stand in them.
-/
import Derived.Test.YtlpmfgmldmdggaaGreatX1
import Derived.Test.YtlpmfgmldmdggaaGreatK3
import Derived.Laws.StructEq
open Go Go.RM
namespace Go.Proofs.YtlpmfgmldmdggaaGreat
set_option maxRecDepth 100000
abbrev Ge:Sh:=.int .i64
abbrev Gf:Sh:=.cons .str (.cons Ge (.cons Ge (.cons Ge (.cons Ge .nil))))
abbrev Jo:Sh:=.cons .str (.cons Ge (.cons Ge (.cons .bool .nil)))
abbrev Gg:Sh:=.cons (.slice Gf) (.cons (.slice Jo) (.cons Ge .nil))
theorem Hq {l:List AV} (h:TV Ge l):∃ n,(Lit.int .i64 n).wf=true∧l=eI n:=by
 cases h with
 | int h=>exact ⟨_,h,rfl⟩
theorem MS {k:IntKind} {l:List AV} (h:TV (.int k) l):∃ n,(Lit.int k n).wf=true∧l=[.fl (.int k n)]:=by
 cases h with
 | int h=>exact ⟨_,h,rfl⟩
theorem MT {l:List AV} (h:TV .bool l):∃ b,l=[BB b]:=by
 cases h with
 | bool=>exact ⟨_,rfl⟩
theorem Mo {l:List AV} (h:TV .str l):∃ s:ByteArray,s.size≤maxLen∧l=[ST s]:=by
 cases h with
 | str h=>exact ⟨_,h,rfl⟩
theorem Cx {a b:Sh} {l:List AV} (h:TV (.cons a b) l):∃ x y,TV a x∧TV b y∧l=x++y:=by
 cases h with
 | cons h k=>exact ⟨_,_,h,k,rfl⟩
theorem LJ {l:List AV} (h:TV .nil l):l=[]:=by cases h;rfl
theorem L5 {s:Sh} {l:List AV} (h:TV (.slice s) l):∃ els,els.length≤maxLen∧(∀ el ∈ els,TV s el)∧l=[.sl els false]:=by
 cases h with
 | slice h k=>exact ⟨_,h,k,rfl⟩
theorem Dl {α:Type} {e:α→List AV} {P:α→Prop}:∀ {els:List (List AV)},(∀ el ∈ els,∃ x,P x∧el=e x)→∃ l:List α,(∀ x ∈ l,P x)∧els=l.map e
 | [],_=>⟨[],⟨List.forall_mem_nil _,rfl⟩⟩
 | el :: els,h=>by obtain ⟨x,hx,rfl⟩:=h el (by simp);obtain ⟨l,hl,rfl⟩:=Dl fun el hel=>h el (List.mem_cons_of_mem _ hel);exact ⟨x :: l,⟨qq8 ⟨hx,hl⟩,rfl⟩⟩
theorem JP {l:List AV} (h:TV Gf l):∃ x:eZ,x.name.data.toList.length≤maxLen∧l=bE x:=by obtain ⟨_,_,h1,k1,rfl⟩:=Cx h;obtain ⟨_,_,h2,k2,rfl⟩:=Cx k1;obtain ⟨_,_,h3,k3,rfl⟩:=Cx k2;obtain ⟨_,_,h4,k4,rfl⟩:=Cx k3;obtain ⟨_,_,h5,k5,rfl⟩:=Cx k4;obtain rfl:=LJ k5;obtain ⟨a,ha,rfl⟩:=Mo h1;obtain ⟨b,_,rfl⟩:=Hq h2;obtain ⟨c,_,rfl⟩:=Hq h3;obtain ⟨d,_,rfl⟩:=Hq h4;obtain ⟨e,_,rfl⟩:=Hq h5;exact ⟨⟨a,b,c,d,e⟩,by simpa using ha,rfl⟩
theorem La {l:List AV} (h:TV Jo l):∃ x:m8,x.name.data.toList.length≤maxLen∧l=bS x:=by obtain ⟨_,_,h1,k1,rfl⟩:=Cx h;obtain ⟨_,_,h2,k2,rfl⟩:=Cx k1;obtain ⟨_,_,h3,k3,rfl⟩:=Cx k2;obtain ⟨_,_,h4,k4,rfl⟩:=Cx k3;obtain rfl:=LJ k4;obtain ⟨a,ha,rfl⟩:=Mo h1;obtain ⟨b,_,rfl⟩:=Hq h2;obtain ⟨c,_,rfl⟩:=Hq h3;obtain ⟨d,rfl⟩:=MT h4;exact ⟨⟨a,b,c,d⟩,by simpa using ha,rfl⟩
theorem JQ {l:List AV} (h:TV Gg l):∃ c:aP,c.Ok∧l=aD c:=by obtain ⟨_,_,h1,k1,rfl⟩:=Cx h;obtain ⟨_,_,h2,k2,rfl⟩:=Cx k1;obtain ⟨_,_,h3,k3,rfl⟩:=Cx k2;obtain rfl:=LJ k3;obtain ⟨a,ha,ha',rfl⟩:=L5 h1;obtain ⟨a,hn,rfl⟩:=Dl (e:=bE) fun el hel=>JP (ha' el hel);obtain ⟨b,hb,hb',rfl⟩:=L5 h2;obtain ⟨b,hm,rfl⟩:=Dl (e:=bS) fun el hel=>La (hb' el hel);obtain ⟨d,_,rfl⟩:=Hq h3;exact ⟨⟨a,b,d⟩,⟨by simpa using ha,hn,by simpa using hb,hm⟩,rfl⟩
theorem Lc:∀ e ∈ TB,fR TT e:=by intro e he;unfold TB at he;rw [List.mem_singleton.1 he];exact K3
end Go.Proofs.YtlpmfgmldmdggaaGreat
open Go Go.RM
namespace Go.Proofs.YtlpmfgmldmdggaaGreat
set_option maxRecDepth 100000
end Go.Proofs.YtlpmfgmldmdggaaGreat
open Go Go.RM
namespace Go.Proofs.YtlpmfgmldmdggaaGreat
set_option maxRecDepth 100000
end Go.Proofs.YtlpmfgmldmdggaaGreat
open Go Go.RM
namespace Go.Proofs.YtlpmfgmldmdggaaGreat
set_option maxRecDepth 100000
end Go.Proofs.YtlpmfgmldmdggaaGreat
open Go Go.RM
namespace Go.Proofs.YtlpmfgmldmdggaaGreat
set_option maxRecDepth 100000
set_option maxHeartbeats 4000000
end Go.Proofs.YtlpmfgmldmdggaaGreat
open Go Go.RM
namespace Go.Proofs.YtlpmfgmldmdggaaGreat
set_option maxRecDepth 100000
set_option maxHeartbeats 4000000
end Go.Proofs.YtlpmfgmldmdggaaGreat
open Go Go.RM
namespace Go.RM
end Go.RM
namespace Go.Proofs.YtlpmfgmldmdggaaGreat
set_option maxRecDepth 100000
set_option maxHeartbeats 4000000
theorem sJ {α:Type} {g:α→AV} (h:∀ x,(g x).deep=true):∀ l:List α,cV (l.map g)=true
 | []=>rfl
 | x :: l=>by show ((g x).deep && cV (l.map g))=true;rw [h x,sJ h l];rfl
theorem eC {α:Type} (n:Nat) {g:α→AV} (h:∀ x,(g x).gZ n=true):∀ l:List α,sy n (l.map g)=true
 | []=>rfl
 | x :: l=>by show ((g x).gZ n && sy n (l.map g))=true;rw [h x,eC n h l];rfl
abbrev av (l:List Int):List AV:=l.map af
theorem dJ:∀ l:List Int,(ints l).flatten=av l
 | []=>rfl
 | x :: l=>by show af x :: (ints l).flatten=_;rw [dJ l];rfl
theorem sK (l:List Int):cV (av l)=true:=sJ (fun _=>rfl) l
theorem Gh (j:Nat) (l:List Int) (v:Nat):AB.gZ j (.cells (av l) 1 v)=true:=eC j (fun _=>rfl) _
theorem ax (l:List Int) (v:Nat):([.cells (av l) 1 v]:List AB).all (AB.gZ 1)=true:=by simp only [List.all_cons,List.all_nil,Gh,Bool.and_true]
theorem wm {hp:List AB} {j v cc n:Nat} {l:List Int} (hj:hp[j]?=some (.cells (av l) 1 v)) (hn:l.length=n):Fz hp (.aL j v 0 n cc) (.sl (ints l) false) :=
 Fz.row (es:=1) hj (by rw [List.length_map];omega) (by rw [List.length_map];exact hn) (fun el hel=>by obtain ⟨x,_,rfl⟩:=List.mem_map.1 hel;rfl) (by rw [dJ,List.drop_zero,List.take_of_length_le (by rw [List.length_map];omega)]) (by rw [dJ];exact sK _) (fun h=>Bool.noConfusion h)
end Go.Proofs.YtlpmfgmldmdggaaGreat
open Go Go.RM
namespace Go.Proofs.YtlpmfgmldmdggaaGreat
set_option maxRecDepth 100000
set_option maxHeartbeats 4000000
theorem nP {S:List Int} {k:Nat} {x:Int} (h:S[k]?=some x):(av S)[0+((k:Nat):Int).toNat * 1]?=some (af x):=by rw [Int.toNat_natCast,Nat.zero_add,Nat.mul_one,List.getElem?_map,h];rfl
theorem lU {S:List Int} {k:Nat} (h:k < S.length) (x:Int):bg (av S) [af x] (0+((k:Nat):Int).toNat * 1)=av (S.set k x):=by rw [Int.toNat_natCast,Nat.zero_add,Nat.mul_one];unfold bg;show _=(S.set k x).map af;rw [List.map_set,List.set_eq_take_append_cons_drop,if_pos (by rw [List.length_map];exact h),List.length_singleton,List.append_assoc];rfl
end Go.Proofs.YtlpmfgmldmdggaaGreat
open Go Go.RM
namespace Go.Proofs.YtlpmfgmldmdggaaGreat
set_option maxRecDepth 100000
set_option maxHeartbeats 4000000
end Go.Proofs.YtlpmfgmldmdggaaGreat
open Go Go.RM
namespace Go.Proofs.YtlpmfgmldmdggaaGreat
set_option maxRecDepth 100000
set_option maxHeartbeats 4000000
end Go.Proofs.YtlpmfgmldmdggaaGreat
open Go Go.RM
namespace Go.Proofs.YtlpmfgmldmdggaaGreat
set_option maxRecDepth 100000
theorem Ib {v cc n:Nat} {S:List Int} (h:S.length=n):Gv 0 v (av S) (.aL 0 v 0 n cc) (.sl (ints S) false) :=
 .row 1 (by rw [List.length_map];omega) (by rw [List.length_map];exact h) (fun el hel=>by obtain ⟨x,_,rfl⟩:=List.mem_map.1 hel;rfl) (by rw [dJ,List.drop_zero,List.take_of_length_le (by rw [List.length_map];omega)]) (fun h=>Bool.noConfusion h)
theorem Bj (S:List Int):∀ el ∈ ints S,el.length=1:=fun el hel=>by obtain ⟨x,_,rfl⟩:=List.mem_map.1 hel;rfl
theorem Gi (S:List Int):(av S).all AV.one=true:=by
 induction S with
 | nil=>rfl
 | cons x S ih=>exact ih
end Go.Proofs.YtlpmfgmldmdggaaGreat
open Go Go.RM
namespace Go.Proofs.YtlpmfgmldmdggaaGreat
set_option maxRecDepth 100000
set_option maxHeartbeats 4000000
structure bW where
 turns:Int
 days:Int
 aF:Int
abbrev bX (p:bW):List AV:=[af p.turns,af p.days,af p.aF]
def LK (t d w:Int):Int:=if jK t 1 4=false then 7 else if jK d 1 60=false then 7 else if jK w 1 2=false then 7 else 0
def nQ (c:aP) (p:bW):Int:=if (oG c).2.2 ≠ 0 then (oG c).2.2 else LK p.turns p.days p.aF
structure uz (p:bW):Prop where
 turns:1≤p.turns∧p.turns≤4
 days:1≤p.days∧p.days≤60
 aF:1≤p.aF∧p.aF≤2
theorem Bn {c:aP} {p:bW} (h:nQ c p=0):Good c∧uz p:=by
 unfold nQ at h;split at h
 ·rename_i h1;exact absurd h h1
 rename_i h1;refine ⟨JO (Decidable.not_not.1 h1),?_⟩;unfold LK at h;split at h
 ·cases h
 rename_i h2;split at h
 ·cases h
 rename_i h3;split at h
 ·cases h
 rename_i h4;exact ⟨fO.1 ((Bool.not_eq_false _).mp h2),fO.1 ((Bool.not_eq_false _).mp h3),fO.1 ((Bool.not_eq_false _).mp h4)⟩
theorem tL (one:Bool) (c:aP) (h:c.Ok) (p:bW):Pu one 29 [.ag (aD c),.ag (bX p)] (af (nQ c p)):=by
 have o1:=H9 one c h;have o2:=jE one 1 4 p.turns;have o3:=jE one 1 60 p.days;have o4:=jE one 1 2 p.aF;rw [cM] at o2 o3 o4;unfold nQ LK;obtain ⟨t,d,w⟩:=p
 dsimp only at *
 generalize (oG c).1=a1 at *
 generalize (oG c).2.1=a2 at *
 by_cases e:(oG c).2.2=0
 ·rw [if_neg (by rw [e];simp)];rw [e] at o1;have d0:(!decide ((0:Int)=0))=false:=by decide
  cases e2:jK t 1 4 with
  | false =>
   rw [e2] at o2;rw [if_pos rfl];refine ah.body (fn:=Tryz.f29) rfl rfl rfl rfl ?_;refine qq1 ?_;repeat' first|refine u1 ?_|((with_reducible refine qq3 ?_);refine ah.call o1 rfl rfl ?_)|((with_reducible refine qq3 ?_);refine ah.call o2 rfl rfl ?_)|refine u2 ?_|fail
   exact ⟨[_],⟨Fz.deep rfl,trivial⟩,rfl⟩
  | true =>
   rw [e2] at o2;rw [if_neg (by decide)]
   cases e3:jK d 1 60 with
   | false =>
    rw [e3] at o3;rw [if_pos rfl];refine ah.body (fn:=Tryz.f29) rfl rfl rfl rfl ?_;refine qq1 ?_;repeat' first|refine u1 ?_|((with_reducible refine qq3 ?_);refine ah.call o1 rfl rfl ?_)|((with_reducible refine qq3 ?_);refine ah.call o2 rfl rfl ?_)|((with_reducible refine qq3 ?_);refine ah.call o3 rfl rfl ?_)|refine u2 ?_|fail
    exact ⟨[_],⟨Fz.deep rfl,trivial⟩,rfl⟩
   | true =>
    rw [e3] at o3;rw [if_neg (by decide)]
    cases e4:jK w 1 2 with
    | false =>
     rw [e4] at o4;rw [if_pos rfl];refine ah.body (fn:=Tryz.f29) rfl rfl rfl rfl ?_;refine qq1 ?_;repeat' first|refine u1 ?_|((with_reducible refine qq3 ?_);refine ah.call o1 rfl rfl ?_)|((with_reducible refine qq3 ?_);refine ah.call o2 rfl rfl ?_)|((with_reducible refine qq3 ?_);refine ah.call o3 rfl rfl ?_)|((with_reducible refine qq3 ?_);refine ah.call o4 rfl rfl ?_)|refine u2 ?_|fail
     exact ⟨[_],⟨Fz.deep rfl,trivial⟩,rfl⟩
    | true =>
     rw [e4] at o4;rw [if_neg (by decide)];refine ah.body (fn:=Tryz.f29) rfl rfl rfl rfl ?_;refine qq1 ?_;repeat' first|refine u1 ?_|((with_reducible refine qq3 ?_);refine ah.call o1 rfl rfl ?_)|((with_reducible refine qq3 ?_);refine ah.call o2 rfl rfl ?_)|((with_reducible refine qq3 ?_);refine ah.call o3 rfl rfl ?_)|((with_reducible refine qq3 ?_);refine ah.call o4 rfl rfl ?_)|refine u2 ?_|fail
     exact ⟨[_],⟨Fz.deep rfl,trivial⟩,rfl⟩
 ·rw [if_pos e];have d1:(!decide ((oG c).2.2=0))=true:=by rw [decide_eq_false e];rfl
  generalize (oG c).2.2=e5 at *
  refine ah.body (fn:=Tryz.f29) rfl rfl rfl rfl ?_;refine qq1 ?_;repeat' first|refine u1 ?_|((with_reducible refine qq3 ?_);refine ah.call o1 rfl rfl ?_)|refine u2 ?_|fail
  exact ⟨[_],⟨Fz.deep rfl,trivial⟩,rfl⟩
theorem ru (one:Bool) (c:aP) (h:c.Ok) (p:bW):Pu one 30 [.ag (aD c),.ag (bX p)] (af (nQ c p)):=by
 have o1:=Gb one c h;have o2:=iM one p.turns 1 4;have o3:=iM one p.days 1 60;have o4:=iM one p.aF 1 2;unfold nQ LK;obtain ⟨t,d,w⟩:=p
 dsimp only at *
 generalize (oG c).1=a1 at *
 generalize (oG c).2.1=a2 at *
 by_cases e:(oG c).2.2=0
 ·rw [if_neg (by rw [e];simp)];rw [e] at o1;have d0:decide ((0:Int)=0)=true:=by decide
  cases e2:jK t 1 4 with
  | false =>
   rw [e2] at o2;rw [if_pos rfl];refine ah.body (fn:=Tryz.f30) rfl rfl rfl rfl ?_;refine qq1 ?_;repeat' first|refine u1 ?_|((with_reducible refine qq3 ?_);refine ah.call o1 rfl rfl ?_)|((with_reducible refine qq3 ?_);refine ah.call o2 rfl rfl ?_)|refine u2 ?_|fail
   exact ⟨[_],⟨Fz.deep rfl,trivial⟩,rfl⟩
  | true =>
   rw [e2] at o2;rw [if_neg (by decide)]
   cases e3:jK d 1 60 with
   | false =>
    rw [e3] at o3;rw [if_pos rfl];refine ah.body (fn:=Tryz.f30) rfl rfl rfl rfl ?_;refine qq1 ?_;repeat' first|refine u1 ?_|((with_reducible refine qq3 ?_);refine ah.call o1 rfl rfl ?_)|((with_reducible refine qq3 ?_);refine ah.call o2 rfl rfl ?_)|((with_reducible refine qq3 ?_);refine ah.call o3 rfl rfl ?_)|refine u2 ?_|fail
    exact ⟨[_],⟨Fz.deep rfl,trivial⟩,rfl⟩
   | true =>
    rw [e3] at o3;rw [if_neg (by decide)]
    cases e4:jK w 1 2 with
    | false =>
     rw [e4] at o4;rw [if_pos rfl];refine ah.body (fn:=Tryz.f30) rfl rfl rfl rfl ?_;refine qq1 ?_;repeat' first|refine u1 ?_|((with_reducible refine qq3 ?_);refine ah.call o1 rfl rfl ?_)|((with_reducible refine qq3 ?_);refine ah.call o2 rfl rfl ?_)|((with_reducible refine qq3 ?_);refine ah.call o3 rfl rfl ?_)|((with_reducible refine qq3 ?_);refine ah.call o4 rfl rfl ?_)|refine u2 ?_|fail
     exact ⟨[_],⟨Fz.deep rfl,trivial⟩,rfl⟩
    | true =>
     rw [e4] at o4;rw [if_neg (by decide)];refine ah.body (fn:=Tryz.f30) rfl rfl rfl rfl ?_;refine qq1 ?_;repeat' first|refine u1 ?_|((with_reducible refine qq3 ?_);refine ah.call o1 rfl rfl ?_)|((with_reducible refine qq3 ?_);refine ah.call o2 rfl rfl ?_)|((with_reducible refine qq3 ?_);refine ah.call o3 rfl rfl ?_)|((with_reducible refine qq3 ?_);refine ah.call o4 rfl rfl ?_)|refine u2 ?_|fail
     exact ⟨[_],⟨Fz.deep rfl,trivial⟩,rfl⟩
 ·rw [if_pos e];have d1:decide ((oG c).2.2=0)=false:=decide_eq_false e
  generalize (oG c).2.2=e5 at *
  refine ah.body (fn:=Tryz.f30) rfl rfl rfl rfl ?_;refine qq1 ?_;repeat' first|refine u1 ?_|((with_reducible refine qq3 ?_);refine ah.call o1 rfl rfl ?_)|refine u2 ?_|fail
  exact ⟨[_],⟨Fz.deep rfl,trivial⟩,rfl⟩
def gL (l:List Int) (n:Int):Bool:=l.any fun x=>decide (x=n)
theorem ry {l:List Int} {k:Nat} {z:Int} (h:l[k]?=some z) (n:Int):gL (l.take (k+1)) n=(gL (l.take k) n || decide (z=n)):=by unfold gL;rw [List.take_add_one,h,List.any_append];simp
theorem Jq (one:Bool) (l:List Int) (f:Bool) (hl:l.length≤maxLen) (n:Int):Pu one 112 [.sl (ints l) f,af n] (BB (gL l n)):=by
 have el:((ints l).length:Int)=l.length:=by simp
 have hl':l.length≤maxLen:=hl;simp only [maxLen] at hl';refine ah.body (fn:=Tryz.f112) rfl rfl rfl rfl ?_;refine qq1 ?_;repeat' first|refine u1 ?_|refine u2 ?_|fail
 refine ay.aN (ak.to (l:=[(0,.sl (ints l) f),(1,af n),(5,af ((0:Nat):Int))]) (hp:=[]) 0 rfl ⟨rfl,rfl,rfl,trivial⟩ (qq5 _) rfl rfl) ?_;refine ay.loop (fun k:Nat=>k≤l.length∧gL (l.take k) n=false) (fun k=>⟨aT [(0,.sl (ints l) f),(1,af n),(5,af ((k:Nat):Int))],[],bJ.none,false,0⟩) (fun k=>l.length - k) ?_ 0 ⟨qq5 _,rfl⟩;rintro k ⟨hk,hno⟩;by_cases hlt:k < l.length
 ·have dl:decide ((k:Int) < ((ints l).length:Int))=true:=decide_eq_true (by omega);have hat:(ints l)[((k:Nat):Int).toNat]?=some (eI l[k]):=dm hlt;have ht:=ry (List.getElem?_eq_getElem hlt) n;rw [hno,Bool.false_or] at ht;have hall:decide (l[k]=n)=true→gL l n=true:=fun h=>by unfold gL;exact List.any_eq_true.2 ⟨l[k],List.getElem_mem hlt,h⟩
  generalize l[k]=z at *
  cases e:decide (z=n) with
  | true =>
   have hz:gL l n=true:=hall e;rw [hz];refine qq1 ?_;repeat' first|refine u1 ?_|(refine ⟨[af z],⟨by omega,hat⟩,rfl,?_⟩)|refine u2 ?_|fail
   exact ⟨[_],⟨Fz.deep rfl,trivial⟩,rfl⟩
  | false =>
   refine qq1 ?_;repeat' first|refine u1 ?_|(refine ⟨[af z],⟨by omega,hat⟩,rfl,?_⟩)|refine u2 ?_|fail
   exact ⟨k+1,⟨hlt,by rw [ht,e]⟩,(by dsimp only;omega),ak.to 0 rfl ⟨rfl,rfl,aH (by simp),trivial⟩ (qq5 _) rfl rfl⟩
 ·have dl:decide ((k:Int) < ((ints l).length:Int))=false:=decide_eq_false (by omega);have e:gL l n=false:=by rw [List.take_of_length_le (by omega)] at hno;exact hno
  rw [e];refine qq1 ?_;repeat' first|refine u1 ?_|refine u2 ?_|fail
  exact ⟨[_],⟨Fz.deep rfl,trivial⟩,rfl⟩
def uc (w e t d n:Int):Int:=w+(t - n) * e * d - n * 1000 * d
def En (c:aP) (p:bW) (i:Nat) (n:Int):Int:=uc (Gd c i) (Cw c i) p.turns p.days n
theorem Ig {w e t d n:Int} (he:0≤e∧e≤1000) (ht:1≤t∧t≤4) (hd:1≤d∧d≤60) (hn:0≤n∧n≤t) :
  (0≤(t - n) * e∧(t - n) * e≤4000)∧(0≤(t - n) * e * d∧(t - n) * e * d≤240000)∧(0≤n * 1000 * d∧n * 1000 * d≤240000)∧(-340000≤d * ((t - n) * e - n * 1000)∧d * ((t - n) * e - n * 1000)≤340000)∧w+d * ((t - n) * e - n * 1000)=uc w e t d n:=by
 have h1:=Dk (dd:=t - n) (e:=e) (by omega) he;have h0:(t - n) * e≤4000:=by omega
 have h2:=Dk (dd:=(t - n) * e) (e:=d) h1.1 ⟨by omega,by omega⟩;have h3:=Dk (dd:=n * 1000) (e:=d) (by omega) ⟨by omega,by omega⟩;have h4:d * ((t - n) * e - n * 1000)=(t - n) * e * d - n * 1000 * d:=by rw [Int.mul_comm,Int.sub_mul]
 have q2:(t - n) * e * d≤4000 * 60:=by
  calc (t - n) * e * d≤(t - n) * e * 60:=Int.mul_le_mul_of_nonneg_left hd.2 h1.1
   _≤4000 * 60:=by omega
 have q3:n * 1000 * d≤4000 * 60:=by
  calc n * 1000 * d≤n * 1000 * 60:=Int.mul_le_mul_of_nonneg_left hd.2 (by omega)
   _≤4000 * 60:=by omega
 unfold uc;rw [h4]
 generalize (t - n) * e * d=x at *
 generalize n * 1000 * d=y at *
 generalize (t - n) * e=z at *
 omega
theorem rz {c:aP} (hg:Good c) {k:Nat} (hlt:k < c.aA.length):∃ (mn:ByteArray) (rk w:Int) (ms:Bool) (ra:ByteArray) (rb rc rd e:Int),
  (c.aA.map bS)[((k:Nat):Int).toNat]?=some [ST mn,af rk,af w,BB ms]∧(c.aB.map bE)[rk.toNat]?=some [ST ra,af rb,af rc,af rd,af e]∧(0≤rk∧rk < c.aB.length)∧(0≤e∧e≤1000)∧(-100000≤w∧w≤100000)∧Gd c k=w∧Cw c k=e∧(c.aA[k]?).map m8.kC=some rk:=by
 have hm:=hg.L4 _ (List.getElem_mem hlt);have hrl:c.aA[k].kC.toNat < c.aB.length:=by omega
 have hr:=hg.kC _ (List.getElem_mem hrl);refine ⟨c.aA[k].name,c.aA[k].kC,c.aA[k].qZ,c.aA[k].FZ,c.aB[c.aA[k].kC.toNat].name,c.aB[c.aA[k].kC.toNat].EH,c.aB[c.aA[k].kC.toNat].leave,c.aB[c.aA[k].kC.toNat].EI,c.aB[c.aA[k].kC.toNat].qY,dm hlt,?_,hm.1,hr.2.2.2,hm.2,?_,?_,?_⟩
 ·rw [List.getElem?_map,List.getElem?_eq_getElem hrl];rfl
 ·unfold Gd;rw [List.getElem?_eq_getElem hlt];rfl
 ·unfold Cw Gc;rw [List.getElem?_eq_getElem hlt];show ((c.aB[c.aA[k].kC.toNat]?).map eZ.qY).getD 0=_;rw [List.getElem?_eq_getElem hrl];rfl
 ·rw [List.getElem?_eq_getElem hlt];rfl
end Go.Proofs.YtlpmfgmldmdggaaGreat
open Go Go.RM
namespace Go.Proofs.YtlpmfgmldmdggaaGreat
set_option maxRecDepth 100000
abbrev Jr:Sh:=.cons Ge (.cons Ge (.cons Ge .nil))
theorem Lh {l:List AV} (h:TV Jr l):∃ p:bW,l=bX p:=by obtain ⟨_,_,h1,k1,rfl⟩:=Cx h;obtain ⟨_,_,h2,k2,rfl⟩:=Cx k1;obtain ⟨_,_,h3,k3,rfl⟩:=Cx k2;obtain rfl:=LJ k3;obtain ⟨a,_,rfl⟩:=Hq h1;obtain ⟨b,_,rfl⟩:=Hq h2;obtain ⟨d,_,rfl⟩:=Hq h3;exact ⟨⟨a,b,d⟩,rfl⟩
end Go.Proofs.YtlpmfgmldmdggaaGreat
open Go Go.RM
namespace Go.Proofs.YtlpmfgmldmdggaaGreat
set_option maxRecDepth 100000
set_option maxHeartbeats 4000000
end Go.Proofs.YtlpmfgmldmdggaaGreat
open Go Go.RM
namespace Go.Proofs.YtlpmfgmldmdggaaGreat
set_option maxRecDepth 100000
end Go.Proofs.YtlpmfgmldmdggaaGreat
open Go Go.RM
namespace Go.Proofs.YtlpmfgmldmdggaaGreat
set_option maxRecDepth 100000
set_option maxHeartbeats 4000000
end Go.Proofs.YtlpmfgmldmdggaaGreat
open Go Go.RM
namespace Go.Proofs.YtlpmfgmldmdggaaGreat
set_option maxRecDepth 100000
set_option maxHeartbeats 4000000
end Go.Proofs.YtlpmfgmldmdggaaGreat
open Go Go.RM
namespace Go.Proofs.YtlpmfgmldmdggaaGreat
set_option maxRecDepth 100000
def aO (S:List Int) (p:Nat):Int:=S.getD p 0
theorem Dm {S:List Int} {q:Nat} (h:q < S.length):aO S q ∈ S:=by unfold aO;rw [List.getD_eq_getElem?_getD,List.getElem?_eq_getElem h];exact List.getElem_mem _
theorem JU {S:List Int} {q:Nat} (h:q < S.length):S[q]?=some (aO S q):=by unfold aO;rw [List.getD_eq_getElem?_getD,List.getElem?_eq_getElem h];rfl
theorem Gp {rk:Int→Int} {S T:List Int} (hi:∀ a ∈ S,∀ b ∈ S,rk a=rk b→a=b) (h1:S.Pairwise fun a b=>rk a≤rk b) (h2:T.Pairwise fun a b=>rk a≤rk b) (hp:S.Perm T):S=T :=
 List.Perm.eq_of_pairwise (le:=fun a b=>rk a≤rk b) (fun a b ha hb h h'=>hi a ha b (hp.mem_iff.2 hb) (Int.le_antisymm h h')) h1 h2 hp
end Go.Proofs.YtlpmfgmldmdggaaGreat
open Go Go.RM
namespace Go.Proofs.YtlpmfgmldmdggaaGreat
set_option maxRecDepth 100000
structure PR (S S':List Int) (a b:Nat):Prop where
 len:S'.length=S.length
 out:∀ i,(i < a∨b≤i)→aO S' i=aO S i
 perm:S'.Perm S
theorem PR.refl (S:List Int) (a b:Nat):PR S S a b:=⟨rfl,fun _ _=>rfl,List.Perm.refl _⟩
theorem PR.trans {S S' S2:List Int} {a b:Nat} (h:PR S S' a b) (h2:PR S' S2 a b):PR S S2 a b :=
 ⟨h2.len.trans h.len,fun i hi=>(h2.out i hi).trans (h.out i hi),h2.perm.trans h.perm⟩
theorem PR.wide {S S':List Int} {a b c d:Nat} (h:PR S S' a b) (h1:c≤a) (h2:b≤d):PR S S' c d :=
 ⟨h.len,fun i hi=>h.out i (by omega),h.perm⟩
theorem lV {S:List Int} {i:Nat} (h:i < S.length):S[i]?=some (aO S i):=JU h
def sw (S:List Int) (i j:Nat):List Int:=(S.set i (aO S j)).set j (aO S i)
theorem Gq (S:List Int) (i j:Nat):(sw S i j).length=S.length:=by unfold sw;simp
theorem mR {S:List Int} {i j:Nat} (hi:i < S.length) (hj:j < S.length) (q:Nat):aO (sw S i j) q=if q=j then aO S i else if q=i then aO S j else aO S q:=by
 unfold sw aO;simp only [List.getD_eq_getElem?_getD];by_cases h1:q=j
 ·subst h1;rw [if_pos rfl,List.getElem?_set_self (by simpa using hj)];rfl
 ·rw [if_neg h1,List.getElem?_set_ne (Ne.symm h1)];by_cases h2:q=i
  ·subst h2;rw [if_pos rfl,List.getElem?_set_self hi];rfl
  ·rw [if_neg h2,List.getElem?_set_ne (Ne.symm h2)]
theorem Ih {S:List Int} {i j:Nat} (hi:i < S.length) (hj:j < S.length):(sw S i j).Perm S:=by
 unfold sw;have e1:aO S j=S[j]:=by unfold aO;rw [List.getD_eq_getElem?_getD,List.getElem?_eq_getElem hj];rfl
 have e2:aO S i=S[i]:=by unfold aO;rw [List.getD_eq_getElem?_getD,List.getElem?_eq_getElem hi];rfl
 rw [e1,e2];exact List.set_set_perm hi hj
theorem PR.sw {S:List Int} {i j a b:Nat} (hb:b≤S.length) (hi:a≤i∧i < b) (hj:a≤j∧j < b):PR S (sw S i j) a b :=
 ⟨Gq S i j,fun q hq=>by rw [mR (by omega) (by omega),if_neg (by omega),if_neg (by omega)],Ih (by omega) (by omega)⟩
theorem rA (S:List Int) (a i:Nat):aO (S.drop a) i=aO S (a+i):=by unfold aO;rw [List.getD_eq_getElem?_getD,List.getD_eq_getElem?_getD,List.getElem?_drop]
theorem rB {S:List Int} {n i:Nat} (h:i < n):aO (S.take n) i=aO S i:=by unfold aO;rw [List.getD_eq_getElem?_getD,List.getD_eq_getElem?_getD,List.getElem?_take_of_lt h]
theorem Dn {S T:List Int} (hl:S.length=T.length) (h:∀ i,i < S.length→aO S i=aO T i):S=T:=by
 apply List.ext_getElem?;intro i;by_cases hi:i < S.length
 ·rw [lV hi,lV (hl ▸ hi),h i hi]
 ·rw [List.getElem?_eq_none (by omega),List.getElem?_eq_none (by omega)]
theorem PR.mid {S S':List Int} {a b:Nat} (h:PR S S' a b) (hab:a≤b) (hb:b≤S.length):((S'.drop a).take (b - a)).Perm ((S.drop a).take (b - a)):=by
 have hl:=h.len;have e1:S'.take a=S.take a:=Dn (by rw [List.length_take,List.length_take,hl]) fun i hi=>by rw [List.length_take] at hi;rw [rB (by omega),rB (by omega),h.out i (by omega)]
 have e2:S'.drop b=S.drop b:=Dn (by rw [List.length_drop,List.length_drop,hl]) fun i hi=>by rw [rA,rA,h.out _ (by omega)]
 have split:∀ R:List Int,R=R.take a++((R.drop a).take (b - a)++R.drop b):=fun R=>by
  have:(R.drop a).take (b - a)++R.drop b=R.drop a:=by have:=List.take_append_drop (b - a) (R.drop a);rw [List.drop_drop,show a+(b - a)=b by omega] at this;exact this
  rw [this,List.take_append_drop]
 have hp:=h.perm;rw [split S',split S,e1,e2,List.perm_append_left_iff,List.perm_append_right_iff] at hp;exact hp
theorem PR.all {S S':List Int} {a b:Nat} (h:PR S S' a b) (hb:b≤S.length) {P:Int→Prop} (hP:∀ i,a≤i→i < b→P (aO S i)):∀ i,a≤i→i < b→P (aO S' i):=by
 intro i h1 h2;have hm:=h.mid (by omega) hb;have hl:=h.len
 have hi:aO S' i ∈ (S'.drop a).take (b - a):=by
  have:aO ((S'.drop a).take (b - a)) (i - a)=aO S' i:=by rw [rB (by omega),rA,show a+(i - a)=i by omega]
  rw [←this];exact Dm (by rw [List.length_take,List.length_drop];omega)
 obtain ⟨q,hq,he⟩:=List.getElem_of_mem (hm.mem_iff.1 hi);rw [List.length_take,List.length_drop] at hq;have h3:=lV (S:=(S.drop a).take (b - a)) (i:=q) (by rw [List.length_take,List.length_drop];omega);rw [List.getElem?_eq_getElem (by rw [List.length_take,List.length_drop];omega),he] at h3;rw [rB (by omega),rA] at h3;rw [Option.some.inj h3];exact hP _ (by omega) (by omega)
def Sd (rk:Int→Int) (S:List Int) (a b:Nat):Prop:=∀ i j,a≤i→i≤j→j < b→rk (aO S i)≤rk (aO S j)
theorem Sd.keep {rk:Int→Int} {S S':List Int} {a b c d:Nat} (h:Sd rk S a b) (hp:PR S S' c d) (hd:b≤c∨d≤a):Sd rk S' a b:=fun i j h1 h2 h3=>by rw [hp.out i (by omega),hp.out j (by omega)];exact h i j h1 h2 h3
theorem Sd.glue {rk:Int→Int} {S:List Int} {a m b:Nat} (h1:Sd rk S a m) (h2:Sd rk S m b) (hx:∀ i j,a≤i→i < m→m≤j→j < b→rk (aO S i)≤rk (aO S j)):Sd rk S a b:=fun i j hi hij hj=>by
 by_cases hjm:j < m
 ·exact h1 i j hi hij hjm
 ·by_cases him:i < m
  ·exact hx i j hi him (by omega) hj
  ·exact h2 i j (by omega) hij hj
theorem PR.Dp {rk:Int→Int} {S S':List Int} {a b c d:Nat} (h:PR S S' a b) (hb:b≤S.length) (hd:d≤a∨b≤c) (hx:∀ i j,c≤i→i < d→a≤j→j < b→rk (aO S i)≤rk (aO S j)):∀ i j,c≤i→i < d→a≤j→j < b→rk (aO S' i)≤rk (aO S' j):=fun i j h1 h2 h3 h4=>by rw [h.out i (by omega)];exact h.all hb (P:=fun x=>rk (aO S i)≤rk x) (fun q hq1 hq2=>hx i q h1 h2 hq1 hq2) j h3 h4
theorem PR.Gr {rk:Int→Int} {S S':List Int} {a b c d:Nat} (h:PR S S' a b) (hb:b≤S.length) (hd:d≤a∨b≤c) (hx:∀ i j,a≤i→i < b→c≤j→j < d→rk (aO S i)≤rk (aO S j)):∀ i j,a≤i→i < b→c≤j→j < d→rk (aO S' i)≤rk (aO S' j):=fun i j h1 h2 h3 h4=>by rw [h.out j (by omega)];exact h.all hb (P:=fun x=>rk x≤rk (aO S j)) (fun q hq1 hq2=>hx q j hq1 hq2 h3 h4) i h1 h2
structure Hr (rk:Int→Int) (S:List Int) (a i j:Nat):Prop where
 Js:∀ p q,a≤p→p≤q→q≤i→p ≠ j→q ≠ j→rk (aO S p)≤rk (aO S q)
 up:∀ q,j < q→q≤i→rk (aO S j)≤rk (aO S q)
theorem Hr.start {rk:Int→Int} {S:List Int} {a i:Nat} (h:Sd rk S a i):Hr rk S a i i :=
 ⟨fun p q h1 h2 h3 h4 h5=>h p q h1 h2 (by omega),fun q h1 h2=>by omega⟩
theorem Hr.done {rk:Int→Int} {S:List Int} {a i j:Nat} (h:Hr rk S a i j) (hd:j≤a∨rk (aO S (j - 1))≤rk (aO S j)):Sd rk S a (i+1):=fun p q h1 h2 h3=>by
 by_cases hq:q=j
 ·subst hq;by_cases hp:p=q
  ·rw [hp];exact Int.le_refl _
  ·rcases hd with hd|hd
   ·omega
   ·by_cases hp1:p=q - 1
    ·rw [hp1];exact hd
    ·exact Int.le_trans (h.Js p (q - 1) h1 (by omega) (by omega) hp (by omega)) hd
 ·by_cases hp:p=j
  ·rw [hp];exact h.up q (by omega) (by omega)
  ·exact h.Js p q h1 h2 (by omega) hp hq
theorem Hr.step {rk:Int→Int} {S:List Int} {a i j:Nat} (h:Hr rk S a i j) (hj:a < j∧j≤i) (hi:i < S.length) (hl:rk (aO S j) < rk (aO S (j - 1))):Hr rk (sw S j (j - 1)) a i (j - 1):=by
 have g:=mR (S:=S) (i:=j) (j:=j - 1) (by omega) (by omega);constructor
 ·intro p q h1 h2 h3 h4 h5;rw [g,g,if_neg h4,if_neg h5];by_cases hp:p=j
  ·rw [if_pos hp];by_cases hq:q=j
   ·rw [if_pos hq];exact Int.le_refl _
   ·rw [if_neg hq];exact h.Js (j - 1) q (by omega) (by omega) h3 (by omega) hq
  ·rw [if_neg hp];by_cases hq:q=j
   ·rw [if_pos hq];exact h.Js p (j - 1) h1 (by omega) (by omega) hp (by omega)
   ·rw [if_neg hq];exact h.Js p q h1 h2 h3 hp hq
 ·intro q h1 h2;rw [g,g,if_pos rfl,if_neg (by omega)];by_cases hq:q=j
  ·rw [if_pos hq];omega
  ·rw [if_neg hq];exact h.up q (by omega) h2
