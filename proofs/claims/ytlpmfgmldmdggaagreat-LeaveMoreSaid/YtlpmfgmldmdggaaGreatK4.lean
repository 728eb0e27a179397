/-
  Contracts of the program's functions and of the document's. Lemmas alone; their conditions stand in them.
-/
import Derived.Test.YtlpmfgmldmdggaaGreatX1
import Derived.Test.YtlpmfgmldmdggaaGreatK3
import Derived.Laws.StructEq
open Go Go.RM
namespace Go.Proofs.YtlpmfgmldmdggaaGreat
set_option maxRecDepth 100000
abbrev GW:Sh:=.int .i64
abbrev MC:Sh:=.int .u16
abbrev GX:Sh:=.cons .str (.cons GW (.cons GW (.cons GW (.cons GW .nil))))
abbrev Kj:Sh:=.cons .str (.cons GW (.cons GW (.cons .bool .nil)))
abbrev CZ:Sh:=.cons (.slice GX) (.cons (.slice Kj) (.cons GW .nil))
theorem Im {l:List AV} (h:TV GW l):∃ n,(Lit.int .i64 n).wf=true∧l=eI n:=by
 cases h with
 | int h=>exact ⟨_,h,rfl⟩
theorem NC {k:IntKind} {l:List AV} (h:TV (.int k) l):∃ n,(Lit.int k n).wf=true∧l=[.fl (.int k n)]:=by
 cases h with
 | int h=>exact ⟨_,h,rfl⟩
theorem N6 {l:List AV} (h:TV .bool l):∃ b,l=[BB b]:=by
 cases h with
 | bool=>exact ⟨_,rfl⟩
theorem ND {l:List AV} (h:TV .str l):∃ s:ByteArray,s.size≤maxLen∧l=[ST s]:=by
 cases h with
 | str h=>exact ⟨_,h,rfl⟩
theorem C1 {a b:Sh} {l:List AV} (h:TV (.cons a b) l):∃ x y,TV a x∧TV b y∧l=x++y:=by
 cases h with
 | cons h k=>exact ⟨_,_,h,k,rfl⟩
theorem M7 {l:List AV} (h:TV .nil l):l=[]:=by cases h;rfl
theorem Np {s:Sh} {l:List AV} (h:TV (.slice s) l):∃ els,els.length≤maxLen∧(∀ el ∈ els,TV s el)∧l=[.sl els false]:=by
 cases h with
 | slice h k=>exact ⟨_,h,k,rfl⟩
theorem DS {α:Type} {e:α→List AV} {P:α→Prop}:∀ {els:List (List AV)},(∀ el ∈ els,∃ x,P x∧el=e x)→∃ l:List α,(∀ x ∈ l,P x)∧els=l.map e
 | [],_=>⟨[],⟨List.forall_mem_nil _,rfl⟩⟩
 | el :: els,h=>by obtain ⟨x,hx,rfl⟩:=h el (by simp);obtain ⟨l,hl,rfl⟩:=DS fun el hel=>h el (List.mem_cons_of_mem _ hel);exact ⟨x :: l,⟨qq8 ⟨hx,hl⟩,rfl⟩⟩
theorem KU {l:List AV} (h:TV GX l):∃ x:fc,x.name.data.toList.length≤maxLen∧l=aT x:=by obtain ⟨_,_,h1,k1,rfl⟩:=C1 h;obtain ⟨_,_,h2,k2,rfl⟩:=C1 k1;obtain ⟨_,_,h3,k3,rfl⟩:=C1 k2;obtain ⟨_,_,h4,k4,rfl⟩:=C1 k3;obtain ⟨_,_,h5,k5,rfl⟩:=C1 k4;obtain rfl:=M7 k5;obtain ⟨a,ha,rfl⟩:=ND h1;obtain ⟨b,_,rfl⟩:=Im h2;obtain ⟨c,_,rfl⟩:=Im h3;obtain ⟨d,_,rfl⟩:=Im h4;obtain ⟨e,_,rfl⟩:=Im h5;exact ⟨⟨a,b,c,d,e⟩,by simpa using ha,rfl⟩
theorem MD {l:List AV} (h:TV Kj l):∃ x:ji,x.name.data.toList.length≤maxLen∧l=aZ x:=by obtain ⟨_,_,h1,k1,rfl⟩:=C1 h;obtain ⟨_,_,h2,k2,rfl⟩:=C1 k1;obtain ⟨_,_,h3,k3,rfl⟩:=C1 k2;obtain ⟨_,_,h4,k4,rfl⟩:=C1 k3;obtain rfl:=M7 k4;obtain ⟨a,ha,rfl⟩:=ND h1;obtain ⟨b,_,rfl⟩:=Im h2;obtain ⟨c,_,rfl⟩:=Im h3;obtain ⟨d,rfl⟩:=N6 h4;exact ⟨⟨a,b,c,d⟩,by simpa using ha,rfl⟩
theorem GY {l:List AV} (h:TV CZ l):∃ c:aL,c.Ok∧l=aI c:=by obtain ⟨_,_,h1,k1,rfl⟩:=C1 h;obtain ⟨_,_,h2,k2,rfl⟩:=C1 k1;obtain ⟨_,_,h3,k3,rfl⟩:=C1 k2;obtain rfl:=M7 k3;obtain ⟨a,ha,ha',rfl⟩:=Np h1;obtain ⟨a,hn,rfl⟩:=DS (e:=aT) fun el hel=>KU (ha' el hel);obtain ⟨b,hb,hb',rfl⟩:=Np h2;obtain ⟨b,hm,rfl⟩:=DS (e:=aZ) fun el hel=>MD (hb' el hel);obtain ⟨d,_,rfl⟩:=Im h3;exact ⟨⟨a,b,d⟩,⟨by simpa using ha,hn,by simpa using hb,hm⟩,rfl⟩
theorem Nq {l:List AV} (h:TV MC l):∃ n:Nat,n≤65535∧l=[.fl (.int .u16 ((n:Nat):Int))]:=by obtain ⟨n,hn,rfl⟩:=NC h;have h1:IntKind.u16.min=0:=rfl;have h2:IntKind.u16.max=65535:=rfl;simp [Lit.wf] at hn;obtain ⟨m,rfl⟩:∃ m:Nat,n=(m:Int):=⟨n.toNat,by omega⟩;exact ⟨m,by omega,rfl⟩
theorem Kk:∀ e ∈ TB,fV TT e:=by intro e he;unfold TB at he;rw [List.mem_singleton.1 he];exact Mv
end Go.Proofs.YtlpmfgmldmdggaaGreat
open Go Go.RM
namespace Go.Proofs.YtlpmfgmldmdggaaGreat
set_option maxRecDepth 100000
end Go.Proofs.YtlpmfgmldmdggaaGreat
open Go Go.RM
namespace Go.Proofs.YtlpmfgmldmdggaaGreat
set_option maxRecDepth 100000
end Go.Proofs.YtlpmfgmldmdggaaGreat
open Go Go.RM
namespace Go.Proofs.YtlpmfgmldmdggaaGreat
set_option maxRecDepth 100000
end Go.Proofs.YtlpmfgmldmdggaaGreat
open Go Go.RM
namespace Go.Proofs.YtlpmfgmldmdggaaGreat
set_option maxRecDepth 100000
set_option maxHeartbeats 4000000
end Go.Proofs.YtlpmfgmldmdggaaGreat
open Go Go.RM
namespace Go.Proofs.YtlpmfgmldmdggaaGreat
set_option maxRecDepth 100000
set_option maxHeartbeats 4000000
end Go.Proofs.YtlpmfgmldmdggaaGreat
open Go Go.RM
namespace Go.RM
end Go.RM
namespace Go.Proofs.YtlpmfgmldmdggaaGreat
set_option maxRecDepth 100000
set_option maxHeartbeats 4000000
theorem sY {α:Type} {g:α→AV} (h:∀ x,(g x).deep=true):∀ l:List α,cI (l.map g)=true
 | []=>rfl
 | x :: l=>by show ((g x).deep && cI (l.map g))=true;rw [h x,sY h l];rfl
theorem fG {α:Type} (n:Nat) {g:α→AV} (h:∀ x,(g x).ig n=true):∀ l:List α,mU n (l.map g)=true
 | []=>rfl
 | x :: l=>by show ((g x).ig n && mU n (l.map g))=true;rw [h x,fG n h l];rfl
abbrev ay (l:List Int):List AV:=l.map af
theorem eE:∀ l:List Int,(ints l).flatten=ay l
 | []=>rfl
 | x :: l=>by show af x :: (ints l).flatten=_;rw [eE l];rfl
theorem yA (l:List Int):cI (ay l)=true:=sY (fun _=>rfl) l
theorem GZ (j:Nat) (l:List Int) (v:Nat):AB.ig j (.cells (ay l) 1 v)=true:=fG j (fun _=>rfl) _
theorem av (l:List Int) (v:Nat):([.cells (ay l) 1 v]:List AB).all (AB.ig 1)=true:=by simp only [List.all_cons,List.all_nil,GZ,Bool.and_true]
theorem wJ {hp:List AB} {j v cc n:Nat} {l:List Int} (hj:hp[j]?=some (.cells (ay l) 1 v)) (hn:l.length=n):Fz hp (.aJ j v 0 n cc) (.sl (ints l) false) :=
 Fz.row (es:=1) hj (by rw [List.length_map];omega) (by rw [List.length_map];exact hn) (fun el hel=>by obtain ⟨x,_,rfl⟩:=List.mem_map.1 hel;rfl) (by rw [eE,List.drop_zero,List.take_of_length_le (by rw [List.length_map];omega)]) (by rw [eE];exact yA _) (fun h=>Bool.noConfusion h)
end Go.Proofs.YtlpmfgmldmdggaaGreat
open Go Go.RM
namespace Go.Proofs.YtlpmfgmldmdggaaGreat
set_option maxRecDepth 100000
set_option maxHeartbeats 4000000
theorem wK {S:List Int} {k:Nat} {x:Int} (h:S[k]?=some x):(ay S)[0+((k:Nat):Int).toNat * 1]?=some (af x):=by rw [Int.toNat_natCast,Nat.zero_add,Nat.mul_one,List.getElem?_map,h];rfl
theorem rL {S:List Int} {k:Nat} (h:k < S.length) (x:Int):aQ (ay S) [af x] (0+((k:Nat):Int).toNat * 1)=ay (S.set k x):=by rw [Int.toNat_natCast,Nat.zero_add,Nat.mul_one];unfold aQ;show _=(S.set k x).map af;rw [List.map_set,List.set_eq_take_append_cons_drop,if_pos (by rw [List.length_map];exact h),List.length_singleton,List.append_assoc];rfl
end Go.Proofs.YtlpmfgmldmdggaaGreat
open Go Go.RM
namespace Go.Proofs.YtlpmfgmldmdggaaGreat
set_option maxRecDepth 100000
set_option maxHeartbeats 4000000
end Go.Proofs.YtlpmfgmldmdggaaGreat
open Go Go.RM
namespace Go.Proofs.YtlpmfgmldmdggaaGreat
set_option maxRecDepth 100000
set_option maxHeartbeats 4000000
theorem Fb (one:Bool) (a:List Int) (f g:Bool) (hb:a.length≤maxLen):Pu one 25 [.sl (ints a) f,.sl (ints a) g] (BB true):=by
 have mb:a.length≤9223372036854775807:=Nat.le_trans hb (by simp [maxLen]);have ea:((a.map eI).length:Int)=a.length:=by simp
 have d0:(!decide (((a.map eI).length:Int)=((a.map eI).length:Int)))=false:=by rw [decide_eq_true rfl];rfl
 refine ak.body (fn:=Tryz.f25) rfl rfl rfl rfl ?_;refine qq1 ?_;repeat' first|refine u1 ?_|refine u2 ?_|fail
 refine aB.aO (ah.to (l:=[(0,.sl (a.map eI) f),(1,.sl (a.map eI) g),(5,af (0:Nat))]) (hp:=[]) 0 rfl ⟨rfl,rfl,rfl,trivial⟩ (qq5 _) rfl rfl) ?_;refine aB.loop (fun k:Nat=>k≤a.length) (fun k=>⟨aM [(0,.sl (a.map eI) f),(1,.sl (a.map eI) g),(5,af (k:Nat))],[],bq.none,false,0⟩) (fun k=>a.length - k) ?_ 0 (qq5 _);intro k hk;by_cases hlt:k < a.length
 ·have d1:decide ((k:Int) < ((a.map eI).length:Int))=true:=decide_eq_true (by omega);have hat:(a.map eI)[((k:Nat):Int).toNat]?=some (eI a[k]):=dN hlt
  generalize a[k]=x at *
  have d2:(!decide (x=x))=false:=by rw [decide_eq_true rfl];rfl
  refine qq1 ?_;repeat' first|refine u1 ?_|((with_reducible refine qq4 ?_);refine ⟨eI x,⟨by omega,hat⟩,rfl,?_⟩)|refine u2 ?_|fail
  exact ⟨k+1,hlt,(by dsimp only;omega),ah.to 0 rfl ⟨rfl,rfl,aE (by simp),trivial⟩ (qq5 _) rfl rfl⟩
 ·have d1:decide ((k:Int) < ((a.map eI).length:Int))=false:=decide_eq_false (by omega);refine qq1 ?_;repeat' first|refine u1 ?_|refine u2 ?_|fail
  exact ⟨[_],⟨Fz.deep rfl,trivial⟩,rfl⟩
end Go.Proofs.YtlpmfgmldmdggaaGreat
open Go Go.RM
namespace Go.Proofs.YtlpmfgmldmdggaaGreat
set_option maxRecDepth 100000
theorem Ja {v cc n:Nat} {S:List Int} (h:S.length=n):Gv 0 v (ay S) (.aJ 0 v 0 n cc) (.sl (ints S) false) :=
 .row 1 (by rw [List.length_map];omega) (by rw [List.length_map];exact h) (fun el hel=>by obtain ⟨x,_,rfl⟩:=List.mem_map.1 hel;rfl) (by rw [eE,List.drop_zero,List.take_of_length_le (by rw [List.length_map];omega)]) (fun h=>Bool.noConfusion h)
theorem G0 (S:List Int):∀ el ∈ ints S,el.length=1:=fun el hel=>by obtain ⟨x,_,rfl⟩:=List.mem_map.1 hel;rfl
end Go.Proofs.YtlpmfgmldmdggaaGreat
open Go Go.RM
namespace Go.Proofs.YtlpmfgmldmdggaaGreat
set_option maxRecDepth 100000
set_option maxHeartbeats 4000000
structure bE where
 turns:Int
 days:Int
 aR:Int
abbrev cV (p:bE):List AV:=[af p.turns,af p.days,af p.aR]
def MG (t d w:Int):Int:=if jy t 1 4=false then 7 else if jy d 1 60=false then 7 else if jy w 1 2=false then 7 else 0
def kJ (c:aL) (p:bE):Int:=if (nr c).2.2 ≠ 0 then (nr c).2.2 else MG p.turns p.days p.aR
structure ob (p:bE):Prop where
 turns:1≤p.turns∧p.turns≤4
 days:1≤p.days∧p.days≤60
 aR:1≤p.aR∧p.aR≤2
theorem pU {c:aL} {p:bE} (h:kJ c p=0):Good c∧ob p:=by
 unfold kJ at h;split at h
 ·rename_i h1;exact absurd h h1
 rename_i h1;refine ⟨KR (Decidable.not_not.1 h1),?_⟩;unfold MG at h;split at h
 ·cases h
 rename_i h2;split at h
 ·cases h
 rename_i h3;split at h
 ·cases h
 rename_i h4;exact ⟨fQ.1 ((Bool.not_eq_false _).mp h2),fQ.1 ((Bool.not_eq_false _).mp h3),fQ.1 ((Bool.not_eq_false _).mp h4)⟩
theorem ua (one:Bool) (c:aL) (h:c.Ok) (p:bE):Pu one 29 [.ag (aI c),.ag (cV p)] (af (kJ c p)):=by
 have o1:=I8 one c h;have o2:=jO one 1 4 p.turns;have o3:=jO one 1 60 p.days;have o4:=jO one 1 2 p.aR;rw [cO] at o2 o3 o4;unfold kJ MG;obtain ⟨t,d,w⟩:=p
 dsimp only at *
 generalize (nr c).1=a1 at *
 generalize (nr c).2.1=a2 at *
 by_cases e:(nr c).2.2=0
 ·rw [if_neg (by rw [e];simp)];rw [e] at o1;have d0:(!decide ((0:Int)=0))=false:=by decide
  cases e2:jy t 1 4 with
  | false =>
   rw [e2] at o2;rw [if_pos rfl];refine ak.body (fn:=Tryz.f29) rfl rfl rfl rfl ?_;refine qq1 ?_;repeat' first|refine u1 ?_|((with_reducible refine qq3 ?_);refine ak.call o1 rfl rfl ?_)|((with_reducible refine qq3 ?_);refine ak.call o2 rfl rfl ?_)|refine u2 ?_|fail
   exact ⟨[_],⟨Fz.deep rfl,trivial⟩,rfl⟩
  | true =>
   rw [e2] at o2;rw [if_neg (by decide)]
   cases e3:jy d 1 60 with
   | false =>
    rw [e3] at o3;rw [if_pos rfl];refine ak.body (fn:=Tryz.f29) rfl rfl rfl rfl ?_;refine qq1 ?_;repeat' first|refine u1 ?_|((with_reducible refine qq3 ?_);refine ak.call o1 rfl rfl ?_)|((with_reducible refine qq3 ?_);refine ak.call o2 rfl rfl ?_)|((with_reducible refine qq3 ?_);refine ak.call o3 rfl rfl ?_)|refine u2 ?_|fail
    exact ⟨[_],⟨Fz.deep rfl,trivial⟩,rfl⟩
   | true =>
    rw [e3] at o3;rw [if_neg (by decide)]
    cases e4:jy w 1 2 with
    | false =>
     rw [e4] at o4;rw [if_pos rfl];refine ak.body (fn:=Tryz.f29) rfl rfl rfl rfl ?_;refine qq1 ?_;repeat' first|refine u1 ?_|((with_reducible refine qq3 ?_);refine ak.call o1 rfl rfl ?_)|((with_reducible refine qq3 ?_);refine ak.call o2 rfl rfl ?_)|((with_reducible refine qq3 ?_);refine ak.call o3 rfl rfl ?_)|((with_reducible refine qq3 ?_);refine ak.call o4 rfl rfl ?_)|refine u2 ?_|fail
     exact ⟨[_],⟨Fz.deep rfl,trivial⟩,rfl⟩
    | true =>
     rw [e4] at o4;rw [if_neg (by decide)];refine ak.body (fn:=Tryz.f29) rfl rfl rfl rfl ?_;refine qq1 ?_;repeat' first|refine u1 ?_|((with_reducible refine qq3 ?_);refine ak.call o1 rfl rfl ?_)|((with_reducible refine qq3 ?_);refine ak.call o2 rfl rfl ?_)|((with_reducible refine qq3 ?_);refine ak.call o3 rfl rfl ?_)|((with_reducible refine qq3 ?_);refine ak.call o4 rfl rfl ?_)|refine u2 ?_|fail
     exact ⟨[_],⟨Fz.deep rfl,trivial⟩,rfl⟩
 ·rw [if_pos e];have d1:(!decide ((nr c).2.2=0))=true:=by rw [decide_eq_false e];rfl
  generalize (nr c).2.2=e5 at *
  refine ak.body (fn:=Tryz.f29) rfl rfl rfl rfl ?_;refine qq1 ?_;repeat' first|refine u1 ?_|((with_reducible refine qq3 ?_);refine ak.call o1 rfl rfl ?_)|refine u2 ?_|fail
  exact ⟨[_],⟨Fz.deep rfl,trivial⟩,rfl⟩
theorem rM (one:Bool) (c:aL) (h:c.Ok) (p:bE):Pu one 30 [.ag (aI c),.ag (cV p)] (af (kJ c p)):=by
 have o1:=GU one c h;have o2:=iS one p.turns 1 4;have o3:=iS one p.days 1 60;have o4:=iS one p.aR 1 2;unfold kJ MG;obtain ⟨t,d,w⟩:=p
 dsimp only at *
 generalize (nr c).1=a1 at *
 generalize (nr c).2.1=a2 at *
 by_cases e:(nr c).2.2=0
 ·rw [if_neg (by rw [e];simp)];rw [e] at o1;have d0:decide ((0:Int)=0)=true:=by decide
  cases e2:jy t 1 4 with
  | false =>
   rw [e2] at o2;rw [if_pos rfl];refine ak.body (fn:=Tryz.f30) rfl rfl rfl rfl ?_;refine qq1 ?_;repeat' first|refine u1 ?_|((with_reducible refine qq3 ?_);refine ak.call o1 rfl rfl ?_)|((with_reducible refine qq3 ?_);refine ak.call o2 rfl rfl ?_)|refine u2 ?_|fail
   exact ⟨[_],⟨Fz.deep rfl,trivial⟩,rfl⟩
  | true =>
   rw [e2] at o2;rw [if_neg (by decide)]
   cases e3:jy d 1 60 with
   | false =>
    rw [e3] at o3;rw [if_pos rfl];refine ak.body (fn:=Tryz.f30) rfl rfl rfl rfl ?_;refine qq1 ?_;repeat' first|refine u1 ?_|((with_reducible refine qq3 ?_);refine ak.call o1 rfl rfl ?_)|((with_reducible refine qq3 ?_);refine ak.call o2 rfl rfl ?_)|((with_reducible refine qq3 ?_);refine ak.call o3 rfl rfl ?_)|refine u2 ?_|fail
    exact ⟨[_],⟨Fz.deep rfl,trivial⟩,rfl⟩
   | true =>
    rw [e3] at o3;rw [if_neg (by decide)]
    cases e4:jy w 1 2 with
    | false =>
     rw [e4] at o4;rw [if_pos rfl];refine ak.body (fn:=Tryz.f30) rfl rfl rfl rfl ?_;refine qq1 ?_;repeat' first|refine u1 ?_|((with_reducible refine qq3 ?_);refine ak.call o1 rfl rfl ?_)|((with_reducible refine qq3 ?_);refine ak.call o2 rfl rfl ?_)|((with_reducible refine qq3 ?_);refine ak.call o3 rfl rfl ?_)|((with_reducible refine qq3 ?_);refine ak.call o4 rfl rfl ?_)|refine u2 ?_|fail
     exact ⟨[_],⟨Fz.deep rfl,trivial⟩,rfl⟩
    | true =>
     rw [e4] at o4;rw [if_neg (by decide)];refine ak.body (fn:=Tryz.f30) rfl rfl rfl rfl ?_;refine qq1 ?_;repeat' first|refine u1 ?_|((with_reducible refine qq3 ?_);refine ak.call o1 rfl rfl ?_)|((with_reducible refine qq3 ?_);refine ak.call o2 rfl rfl ?_)|((with_reducible refine qq3 ?_);refine ak.call o3 rfl rfl ?_)|((with_reducible refine qq3 ?_);refine ak.call o4 rfl rfl ?_)|refine u2 ?_|fail
     exact ⟨[_],⟨Fz.deep rfl,trivial⟩,rfl⟩
 ·rw [if_pos e];have d1:decide ((nr c).2.2=0)=false:=decide_eq_false e
  generalize (nr c).2.2=e5 at *
  refine ak.body (fn:=Tryz.f30) rfl rfl rfl rfl ?_;refine qq1 ?_;repeat' first|refine u1 ?_|((with_reducible refine qq3 ?_);refine ak.call o1 rfl rfl ?_)|refine u2 ?_|fail
  exact ⟨[_],⟨Fz.deep rfl,trivial⟩,rfl⟩
def e7 (l:List Int) (n:Int):Bool:=l.any fun x=>decide (x=n)
theorem BN {l:List Int} {k:Nat} {z:Int} (h:l[k]?=some z) (n:Int):e7 (l.take (k+1)) n=(e7 (l.take k) n || decide (z=n)):=by unfold e7;rw [List.take_add_one,h,List.any_append];simp
theorem Km (one:Bool) (l:List Int) (f:Bool) (hl:l.length≤maxLen) (n:Int):Pu one 112 [.sl (ints l) f,af n] (BB (e7 l n)):=by
 have el:((ints l).length:Int)=l.length:=by simp
 have hl':l.length≤maxLen:=hl;simp only [maxLen] at hl';refine ak.body (fn:=Tryz.f112) rfl rfl rfl rfl ?_;refine qq1 ?_;repeat' first|refine u1 ?_|refine u2 ?_|fail
 refine aB.aO (ah.to (l:=[(0,.sl (ints l) f),(1,af n),(5,af ((0:Nat):Int))]) (hp:=[]) 0 rfl ⟨rfl,rfl,rfl,trivial⟩ (qq5 _) rfl rfl) ?_;refine aB.loop (fun k:Nat=>k≤l.length∧e7 (l.take k) n=false) (fun k=>⟨aM [(0,.sl (ints l) f),(1,af n),(5,af ((k:Nat):Int))],[],bq.none,false,0⟩) (fun k=>l.length - k) ?_ 0 ⟨qq5 _,rfl⟩;rintro k ⟨hk,hno⟩;by_cases hlt:k < l.length
 ·have dl:decide ((k:Int) < ((ints l).length:Int))=true:=decide_eq_true (by omega);have hat:(ints l)[((k:Nat):Int).toNat]?=some (eI l[k]):=dN hlt;have ht:=BN (List.getElem?_eq_getElem hlt) n;rw [hno,Bool.false_or] at ht;have hall:decide (l[k]=n)=true→e7 l n=true:=fun h=>by unfold e7;exact List.any_eq_true.2 ⟨l[k],List.getElem_mem hlt,h⟩
  generalize l[k]=z at *
  cases e:decide (z=n) with
  | true =>
   have hz:e7 l n=true:=hall e;rw [hz];refine qq1 ?_;repeat' first|refine u1 ?_|(refine ⟨[af z],⟨by omega,hat⟩,rfl,?_⟩)|refine u2 ?_|fail
   exact ⟨[_],⟨Fz.deep rfl,trivial⟩,rfl⟩
  | false =>
   refine qq1 ?_;repeat' first|refine u1 ?_|(refine ⟨[af z],⟨by omega,hat⟩,rfl,?_⟩)|refine u2 ?_|fail
   exact ⟨k+1,⟨hlt,by rw [ht,e]⟩,(by dsimp only;omega),ah.to 0 rfl ⟨rfl,rfl,aE (by simp),trivial⟩ (qq5 _) rfl rfl⟩
 ·have dl:decide ((k:Int) < ((ints l).length:Int))=false:=decide_eq_false (by omega);have e:e7 l n=false:=by rw [List.take_of_length_le (by omega)] at hno;exact hno
  rw [e];refine qq1 ?_;repeat' first|refine u1 ?_|refine u2 ?_|fail
  exact ⟨[_],⟨Fz.deep rfl,trivial⟩,rfl⟩
def sZ (w e t d n:Int):Int:=w+(t - n) * e * d - n * 1000 * d
def cU (c:aL) (p:bE) (i:Nat) (n:Int):Int:=sZ (yz c i) (sX c i) p.turns p.days n
theorem Fc {w e t d n:Int} (he:0≤e∧e≤1000) (ht:1≤t∧t≤4) (hd:1≤d∧d≤60) (hn:0≤n∧n≤t) :
  (0≤(t - n) * e∧(t - n) * e≤4000)∧(0≤(t - n) * e * d∧(t - n) * e * d≤240000)∧(0≤n * 1000 * d∧n * 1000 * d≤240000)∧(-340000≤d * ((t - n) * e - n * 1000)∧d * ((t - n) * e - n * 1000)≤340000)∧w+d * ((t - n) * e - n * 1000)=sZ w e t d n:=by
 have h1:=DQ (dd:=t - n) (e:=e) (by omega) he;have h0:(t - n) * e≤4000:=by omega
 have h2:=DQ (dd:=(t - n) * e) (e:=d) h1.1 ⟨by omega,by omega⟩;have h3:=DQ (dd:=n * 1000) (e:=d) (by omega) ⟨by omega,by omega⟩;have h4:d * ((t - n) * e - n * 1000)=(t - n) * e * d - n * 1000 * d:=by rw [Int.mul_comm,Int.sub_mul]
 have q2:(t - n) * e * d≤4000 * 60:=by
  calc (t - n) * e * d≤(t - n) * e * 60:=Int.mul_le_mul_of_nonneg_left hd.2 h1.1
   _≤4000 * 60:=by omega
 have q3:n * 1000 * d≤4000 * 60:=by
  calc n * 1000 * d≤n * 1000 * 60:=Int.mul_le_mul_of_nonneg_left hd.2 (by omega)
   _≤4000 * 60:=by omega
 unfold sZ;rw [h4]
 generalize (t - n) * e * d=x at *
 generalize n * 1000 * d=y at *
 generalize (t - n) * e=z at *
 omega
theorem lZ {c:aL} (hg:Good c) {k:Nat} (hlt:k < c.aD.length):∃ (mn:ByteArray) (rk w:Int) (ms:Bool) (ra:ByteArray) (rb rc rd e:Int),
  (c.aD.map aZ)[((k:Nat):Int).toNat]?=some [ST mn,af rk,af w,BB ms]∧(c.aC.map aT)[rk.toNat]?=some [ST ra,af rb,af rc,af rd,af e]∧(0≤rk∧rk < c.aC.length)∧(0≤e∧e≤1000)∧(-100000≤w∧w≤100000)∧yz c k=w∧sX c k=e∧(c.aD[k]?).map ji.jx=some rk:=by
 have hm:=hg.M6 _ (List.getElem_mem hlt);have hrl:c.aD[k].jx.toNat < c.aC.length:=by omega
 have hr:=hg.jx _ (List.getElem_mem hrl);refine ⟨c.aD[k].name,c.aD[k].jx,c.aD[k].nu,c.aD[k].CV,c.aC[c.aD[k].jx.toNat].name,c.aC[c.aD[k].jx.toNat].Fy,c.aC[c.aD[k].jx.toNat].leave,c.aC[c.aD[k].jx.toNat].FA,c.aC[c.aD[k].jx.toNat].rJ,dN hlt,?_,hm.1,hr.2.2.2,hm.2,?_,?_,?_⟩
 ·rw [List.getElem?_map,List.getElem?_eq_getElem hrl];rfl
 ·unfold yz;rw [List.getElem?_eq_getElem hlt];rfl
 ·unfold sX CY;rw [List.getElem?_eq_getElem hlt];show ((c.aC[c.aD[k].jx.toNat]?).map fc.rJ).getD 0=_;rw [List.getElem?_eq_getElem hrl];rfl
 ·rw [List.getElem?_eq_getElem hlt];rfl
theorem Fe (one:Bool) (c:aL) (hg:Good c) (p:bE) (hp:ob p) (i:Nat) (hi:i < c.aD.length) (n:Int) (hn:0≤n∧n≤p.turns):Pu one 90 [.ag (aI c),.ag (cV p),af (i:Int),af n] (af (cU c p i n)):=by
 have em:((c.aD.map aZ).length:Int)=c.aD.length:=by simp
 have eg:((c.aC.map aT).length:Int)=c.aC.length:=by simp
 obtain ⟨mn,rk,w,ms,ra,rb,rc,rd,e,hmt,hrt,hrk,hb1,hb2,h01,h02,_⟩:=lZ hg (k:=i) hi;unfold cU;rw [h01,h02];obtain ⟨t,d,aw⟩:=p;obtain ⟨p1,p2,p3⟩:=hp
 dsimp only at *
 have hq:=Fc (w:=w) hb1 p1 p2 hn;have hbi:sZ w e t d n=w+(t - n) * e * d - n * 1000 * d:=rfl;rw [hbi] at hq ⊢;obtain ⟨q1,q2,q3,_,_⟩:=hq;clear hbi;show Pu one 90 [.ag (aI c),.ag [af t,af d,af aw],af (i:Int),af n] _;refine ak.body (fn:=Tryz.f90) rfl rfl rfl rfl ?_;refine qq1 ?_;repeat' first|refine u1 ?_|(refine ⟨[ST mn,af rk,af w,BB ms],⟨by omega,hmt⟩,rfl,?_⟩)|(refine ⟨[ST ra,af rb,af rc,af rd,af e],⟨by omega,hrt⟩,rfl,?_⟩)|refine u2 ?_|fail
 exact ⟨[_],⟨Fz.deep rfl,trivial⟩,rfl⟩
end Go.Proofs.YtlpmfgmldmdggaaGreat
open Go Go.RM
namespace Go.Proofs.YtlpmfgmldmdggaaGreat
set_option maxRecDepth 100000
abbrev G5:Sh:=.cons GW (.cons GW (.cons GW .nil))
theorem Kn {l:List AV} (h:TV G5 l):∃ p:bE,l=cV p:=by obtain ⟨_,_,h1,k1,rfl⟩:=C1 h;obtain ⟨_,_,h2,k2,rfl⟩:=C1 k1;obtain ⟨_,_,h3,k3,rfl⟩:=C1 k2;obtain rfl:=M7 k3;obtain ⟨a,_,rfl⟩:=Im h1;obtain ⟨b,_,rfl⟩:=Im h2;obtain ⟨d,_,rfl⟩:=Im h3;exact ⟨⟨a,b,d⟩,rfl⟩
end Go.Proofs.YtlpmfgmldmdggaaGreat
open Go Go.RM
namespace Go.Proofs.YtlpmfgmldmdggaaGreat
set_option maxRecDepth 100000
set_option maxHeartbeats 4000000
end Go.Proofs.YtlpmfgmldmdggaaGreat
open Go Go.RM
namespace Go.Proofs.YtlpmfgmldmdggaaGreat
set_option maxRecDepth 100000
end Go.Proofs.YtlpmfgmldmdggaaGreat
open Go Go.RM
namespace Go.Proofs.YtlpmfgmldmdggaaGreat
set_option maxRecDepth 100000
set_option maxHeartbeats 4000000
end Go.Proofs.YtlpmfgmldmdggaaGreat
open Go Go.RM
namespace Go.Proofs.YtlpmfgmldmdggaaGreat
set_option maxRecDepth 100000
set_option maxHeartbeats 4000000
end Go.Proofs.YtlpmfgmldmdggaaGreat
open Go Go.RM
namespace Go.Proofs.YtlpmfgmldmdggaaGreat
set_option maxRecDepth 100000
def aH (S:List Int) (p:Nat):Int:=S.getD p 0
theorem DU {S:List Int} {q:Nat} (h:q < S.length):aH S q ∈ S:=by unfold aH;rw [List.getD_eq_getElem?_getD,List.getElem?_eq_getElem h];exact List.getElem_mem _
theorem KX {S:List Int} {q:Nat} (h:q < S.length):S[q]?=some (aH S q):=by unfold aH;rw [List.getD_eq_getElem?_getD,List.getElem?_eq_getElem h];rfl
theorem G6 {rk:Int→Int} {S T:List Int} (hi:∀ a ∈ S,∀ b ∈ S,rk a=rk b→a=b) (h1:S.Pairwise fun a b=>rk a≤rk b) (h2:T.Pairwise fun a b=>rk a≤rk b) (hp:S.Perm T):S=T :=
 List.Perm.eq_of_pairwise (le:=fun a b=>rk a≤rk b) (fun a b ha hb h h'=>hi a ha b (hp.mem_iff.2 hb) (Int.le_antisymm h h')) h1 h2 hp
