/-
  An abstract machine, and that its runs are the model's. Lemmas alone; no condition.
-/
import Derived.WalkKit
import Derived.Lib.TrailingZeros
import Derived.RangeFuncIn
import Derived.RangeFuncRecord
import Derived.RangeFuncLeaves
import Derived.OrdersIn
import Derived.Below
namespace Go.RM
theorem qq5 (n:Nat):0≤n:=Nat.zero_le n
theorem qq6 (n:Nat):n≤n:=Nat.le_refl n
theorem qq7 (a b:Bool):((a&&b)=true)=(a=true∧b=true):=Bool.and_eq_true a b
theorem qq8 {α:Type} {p:α→Prop} {a:α} {l:List α} (h:p a∧∀ x,x∈l→p x):∀ x,x∈a::l→p x:=List.forall_mem_cons.2 h
theorem qq0 {α:Type} {p:α→Prop}:∀ x,x∈([]:List α)→p x:=fun _ h=>nomatch h
theorem qq9 {α:Type _} (a b:α):(some a=some b)=(a=b):=Option.some.injEq a b
def GL:List (Nat × List Value):=[(1,Lib.deBruijn64tab.map fun (n:Nat)=>Value.int .u8 (n:Int))]
def HP (o:Option Obj) (l:List Value):Prop:=∃ cs e fz,o=some (.cells cs e fz)∧∀ (i:Nat) (v:Value),l[i]?=some v→cs[i]?=some v
inductive Tr (α:Type) where
 | leaf
 | node (l:Tr α) (v:Option α) (r:Tr α)
namespace Tr
variable {α : Type}
noncomputable def get (t:Tr α):Nat→Option α :=
 Tr.rec (motive:=fun _=>Nat→Option α) (fun _=>none)
  (fun _ v _ gl gr i=>cond (Nat.beq i 0) v (cond (Nat.beq (Nat.mod i 2) 1) (gl (Nat.div i 2)) (gr (Nat.pred (Nat.div i 2))))) t
noncomputable def lone (x:α) (fuel:Nat):Nat→Tr α :=
 Nat.rec (motive:=fun _=>Nat→Tr α) (fun _=>.leaf)
  (fun _ s i=>cond (Nat.beq i 0) (.node .leaf (some x) .leaf) (cond (Nat.beq (Nat.mod i 2) 1) (.node (s (Nat.div i 2)) none .leaf) (.node .leaf none (s (Nat.pred (Nat.div i 2)))))) fuel
noncomputable def set (t:Tr α) (i:Nat) (x:α):Tr α :=
 Tr.rec (motive:=fun _=>Nat→Tr α) (fun i=>lone x (Nat.succ i) i)
  (fun l v r sl sr i=>cond (Nat.beq i 0) (.node l (some x) r) (cond (Nat.beq (Nat.mod i 2) 1) (.node (sl (Nat.div i 2)) v r) (.node l v (sr (Nat.pred (Nat.div i 2)))))) t i
end Tr
noncomputable section
inductive bf where
 | cells (c:List Value) (own:Bool) (es:Nat)
 | dead
 | map (es:List MapEntry) (clock:Nat)
 | iter (m:Nat) (since:Nat) (seen:List Nat) (stepped:Nat)
 | loop (st:LoopState) (pending:Option Code) (fr:Tr Value) (params:Array Tmp) (assign body:Code)
 | dQ (s:ByteArray) (pos:Nat)
structure Hp where
 t:Tr bf
 n:Nat
 lo:Nat
def Hp.get (h:Hp) (k:Nat):Option bf:=h.t.get k
def Hp.push (h:Hp) (b:bf):Hp:={h with t:=h.t.set h.n b,n:=h.n+1}
def Hp.put (h:Hp) (k:Nat) (b:bf):Hp:={h with t:=h.t.set k b,lo:=min h.lo k}
def Hp.empty:Hp:=⟨.leaf,0,0⟩
inductive cv where
 | none
 | new (b:bf)
 | put (k:Nat) (b:bf)
 | app (k:Nat) (b:bf)
def Hp.app (h:Hp):cv→Hp
 | .none=>h
 | .new b=>h.push b
 | .put k b=>h.put k b
 | .app k b=>(h.put k .dead).push b
def N5:Value→Bool
 | .bool _|.int ..|.float ..|.string _|.pointer none|.slice none 0 0|.map none|.nilFunc|.nilIface=>true
 | _=>false
def bh:Value→Bool
 | .bool _|.int ..|.float ..|.string _|.pointer none|.slice none 0 0|.map none|.nilFunc|.nilIface=>true
 | .iface _ (.agg cs)=>cs.toList.all N5
 | .iface _ x=>N5 x
 | _=>false
def flat:Value→Bool
 | .agg cs=>cs.toList.all bh
 | .tuple vs=>vs.toList.isEmpty
 | v=>bh v
def bH:Value→Bool
 | .agg _|.tuple _=>false
 | _=>true
def aK (P:Program) {α:Type}:Sem α→Option α
 | .pure a=>some a
 | .program k=>aK P (k P)
 | .mark _ k=>aK P k
 | _=>none
structure yR where
 und:TypeDesc
 size:Nat
 bytes:Nat
 zero:Option Value
 agg:Bool
 cJ:List (Nat × Nat)
 cS:Nat
structure bL where
 P:Program
 ty:Tr yR
 fn:Tr Func
def ptr (k o:Nat):Value:=.pointer (some ⟨k,o,none⟩)
def splice (cs vs:List Value) (o:Nat):List Value:=cs.take o++vs++cs.drop (o+vs.length)
def cut (cs:List Value) (o n:Nat):Option (List Value):=bif Nat.ble (o+n) cs.length then some ((cs.drop o).take n) else none
def cr (zero:List Value) (n:Nat):List Value:=(List.range n).map fun i=>zero.getD (i % zero.length) undef
def jR:Value→Option Nat
 | .int _ n=>bif decide (n < 0) then none else some n.toNat
 | _=>none
def intOf?:Value→Option Int
 | .int _ n=>some n
 | _=>none
def addr?:Value→Option (Nat × Nat)
 | .pointer (some ⟨k,o,none⟩)=>some (k,o)
 | _=>none
def cells?:Option bf→Option (List Value × Bool × Nat)
 | some (.cells cs own es)=>some (cs,own,es)
 | _=>none
def map?:Option bf→Option (List MapEntry × Nat)
 | some (.map es c)=>some (es,c)
 | _=>none
def elem? (T:bL) (t:TypeId):Option yR :=
 match T.ty.get t with
 | some ⟨.slice e,_,_,_,_,_,_⟩=>T.ty.get e
 | _=>none
def bT (g:Nat→Option bf) (size:Nat):Value→Option (List Value)
 | .slice none 0 _=>some []
 | .slice (some ⟨k,o,none⟩) n _=>match cells? (g k) with
  | some (cs,_,_)=>cut cs o (n * size)
  | none=>bif Nat.beq n 0 then some [] else none
 | _=>none
def vu:Value→Option Nat
 | .slice _ n _=>some n
 | _=>none
def bZ (inf:yR):Bool :=
 match inf.zero with
 | some z=>Nat.beq z.cells.toList.length inf.size && Nat.ble 1 inf.size && z.cells.toList.all bh
 | none=>false
def mg (inf:yR) (base:Option Addr) (ln cp m:Nat) (new:List Value) (g:Nat→Option bf):Option (Value × cv) :=
 match base with
 | some ⟨k,o,none⟩ =>
  match cells? (g k) with
  | some (cs,own,es) =>
   bif own && Nat.ble (o+(ln+m) * inf.size) cs.length then
    some (.slice (some ⟨k,o,none⟩) (ln+m) cp,.put k (.cells (splice cs new (o+ln * inf.size)) true es))
   else none
  | none=>none
 | _=>none
def iD (n:Nat) (inf:yR) (base:Option Addr) (ln cp m:Nat) (old new:List Value) (g:Nat→Option bf):Option (Value × cv) :=
 bif Nat.beq cp ln then some (.slice (some ⟨n,0,none⟩) (ln+m) (ln+m+1),.new (.cells (old++new) true inf.size))
 else bif Nat.ble (ln+m+3) cp then mg inf base ln cp m new g
 else match base with
  | some ⟨k,0,none⟩ =>
   match cells? (g k) with
   | some (cs,own,es) =>
    bif own && Nat.beq cp (ln+1) && Nat.beq cs.length (ln * inf.size) && Nat.beq es inf.size then
     some (.slice (some ⟨n,0,none⟩) (ln+m) (ln+m+1),.app k (.cells (old++new) true inf.size))
    else none
   | none=>none
  | _=>none
def gy (T:bL) (n:Nat) (ty:TypeId) (s x:Value) (g:Nat→Option bf):Option (Value × cv) :=
 match elem? T ty with
 | some inf =>
  match s with
  | .slice base ln cp =>
   match vu x,bT g inf.size s,bT g inf.size x with
   | some m,some old,some new =>
    bif Nat.ble ((ln+m) * inf.bytes) 140737488355328 && Nat.ble (ln+m) 9223372036854775807 && new.all bH && bZ inf then
     bif Nat.beq m 0 then some (s,.none) else iD n inf base ln cp m old new g
    else none
   | _,_,_=>none
  | _=>none
 | none=>none
def dL (d:Nat):Option Value→Option Nat
 | some v=>jR v
 | none=>some d
def Ft (base:Option Addr) (sz l h len cp:Nat):Option Value :=
 match base with
 | some ⟨k,o,none⟩ =>
  bif Nat.ble (l+1) h && Nat.ble (len+3) cp && Nat.ble (h+3) cp then
   some (.slice (some ⟨k,o+l * sz,none⟩) (h - l) (h - l+3+(cp - 3 - h)))
  else none
 | _=>none
def qy (T:bL) (t:TypeId) (x:Value) (lo hi:Option Value):Option Value :=
 match elem? T t with
 | some inf =>
  match x with
  | .slice base len cp =>
   match dL 0 lo,dL len hi with
   | some l,some h =>
    bif Nat.ble l h && Nat.ble h len && Nat.ble 1 inf.size then
     match base with
     | some ⟨k,o,none⟩=>some (.slice (some ⟨k,o+l * inf.size,none⟩) (h - l) (bif Nat.beq h len && Nat.beq cp len then h - l else bif Nat.beq h len then h - l+2 else h - l+3+(len - h)))
     | none=>bif Nat.beq len 0 && Nat.beq cp 0 then some (.slice none 0 0) else none
     | _=>none
    else Ft base inf.size l h len cp
   | _,_=>none
  | _=>none
 | none=>none
def pe (T:bL) (t:TypeId) (x:Value) (lo hi:Option Value):Option Value :=
 match T.ty.get t with
 | some ⟨.array len _,_,_,_,_,_,cS⟩ =>
  match addr? x,dL 0 lo,dL len hi with
  | some (k,o),some l,some h =>
   bif Nat.ble l h && Nat.ble h len && Nat.ble 1 cS then
    some (.slice (some ⟨k,o+l * cS,none⟩) (h - l) (bif Nat.beq h len then h - l else h - l+3+(len - h)))
   else none
  | _,_,_=>none
 | _=>none
def jT (T:bL) (t:TypeId) (x:Value) (lo:Option Value) (hi mx:Value):Option Value :=
 match elem? T t with
 | some inf =>
  match x with
  | .slice base len cp =>
   match dL 0 lo,jR hi,jR mx with
   | some l,some h,some m =>
    bif Nat.ble l h && Nat.ble h m && Nat.ble m len && Nat.ble 1 inf.size then
     match base with
     | some ⟨k,o,none⟩=>some (.slice (some ⟨k,o+l * inf.size,none⟩) (h - l) (bif Nat.beq h m then h - l else h - l+3+(m - h)))
     | none=>bif Nat.beq len 0 && Nat.beq cp 0 then some (.slice none 0 0) else none
     | _=>none
    else none
   | _,_,_=>none
  | _=>none
 | none=>none
def jb (T:bL) (n:Nat) (t:TypeId) (ln cp:Value):Option (Value × cv) :=
 match elem? T t with
 | some inf =>
  match jR ln,jR cp with
  | some l,some c =>
   bif Nat.ble l c && Nat.ble (inf.bytes * c) 140737488355328 && Nat.ble c 9223372036854775807 && bZ inf then
    some (.slice (some ⟨n,0,none⟩) l (bif Nat.beq l c then l else l+1),.new (.cells (cr ((inf.zero.map fun z=>z.cells.toList).getD []) (l * inf.size)) true inf.size))
   else none
  | _,_=>none
 | none=>none
def ku (T:bL) (t:TypeId):Option (TypeId × Option Value) :=
 match T.ty.get t with
 | some ⟨.map k e,_,_,_,_,_,_⟩=>some (k,(T.ty.get e).bind (·.zero))
 | _=>none
def ia:Value→Option Nat
 | .map (some r)=>some r
 | _=>none
def od (P:Program) (emp:Bool) (kt:TypeId) (k:Value) (es:List MapEntry):Option (Option Nat) :=
 bif flat k && es.all (fun e=>flat e.key) then
  match aK P (Instr.checkKey emp 10000 kt k) with
  | some _=>(aK P (Instr.findKey kt k (es.map fun e=>{e with val:=.nilIface}))).map fun r=>r.map (·.1)
  | none=>none
 else none
def zX (T:bL) (kt:TypeId) (zero:Option Value) (es:List MapEntry) (k:Value) (ok:Bool):Option Value :=
 match od T.P es.isEmpty kt k es,zero with
 | some (some i),some _=>(es[i]?).map fun e=>bif ok then .tuple #[e.val,.bool true] else e.val
 | some none,some z=>bif flat z then some (bif ok then .tuple #[z,.bool false] else z) else none
 | _,_=>none
def kZ (T:bL) (t:TypeId) (m k:Value) (ok:Bool) (g:Nat→Option bf):Option Value :=
 match ku T t,(ia m).bind fun r=>map? (g r) with
 | some (kt,z),some (es,_)=>zX T kt z es k ok
 | _,_=>none
def mh (T:bL) (kt:TypeId) (zero:Option Value) (r:Nat) (es:List MapEntry) (clock:Nat) (k:Value):Option (Value × cv) :=
 match od T.P false kt k es,zero with
 | some (some i),_ =>
  match es[i]? with
  | some e=>bif Instr.sameBits 10000 e.key k then some (.tuple #[e.val,.int .i64 e.born],.put r (.map (es.modify i fun e=>{e with key:=k}) clock)) else none
  | none=>none
 | some none,some z=>bif flat z then some (.tuple #[z,.int .i64 clock],.put r (.map (es++[{key:=k,val:=z,born:=clock}]) (clock+1))) else none
 | _,_=>none
def eY (T:bL) (t:TypeId) (m k:Value) (g:Nat→Option bf):Option (Value × cv) :=
 match ku T t,ia m with
 | some (kt,z),some r =>
  match map? (g r) with
  | some (es,clock)=>mh T kt z r es clock k
  | none=>none
 | _,_=>none
def dB (m s v:Value) (g:Nat→Option bf):Option cv :=
 match ia m,intOf? s with
 | some r,some born =>
  match map? (g r) with
  | some (es,clock) =>
   match es.findIdx? (fun e=>(e.born:Int) == born) with
   | some i=>some (.put r (.map (es.modify i fun e=>{e with val:=v}) clock))
   | none=>none
  | none=>none
 | _,_=>none
def mT (T:bL) (kt:TypeId) (r:Nat) (es:List MapEntry) (clock:Nat) (k v:Value):Option cv :=
 match od T.P false kt k es with
 | some (some i) =>
  match es[i]? with
  | some e=>bif Instr.sameBits 10000 e.key k then some (.put r (.map (es.modify i fun e=>{e with key:=k,val:=v}) clock)) else none
  | none=>none
 | some none=>some (.put r (.map (es++[{key:=k,val:=v,born:=clock}]) (clock+1)))
 | none=>none
def eR (T:bL) (t:TypeId) (m k v:Value) (g:Nat→Option bf):Option cv :=
 match ku T t,ia m with
 | some (kt,_),some r =>
  match map? (g r) with
  | some (es,clock)=>mT T kt r es clock k v
  | none=>none
 | _,_=>none
def vv (r m since:Nat) (seen:List Nat) (last:Nat) (es:List MapEntry) (clock:Nat):Option (List (Value × cv)) :=
 bif !seen.isEmpty && !es.isEmpty && es.all (fun e=>Nat.ble last e.born) then none else
 let left:=es.filter fun e=>!seen.contains e.born
 let old:=left.filter (fun e=>decide (e.born < since))
 let new:=left.filter (fun e=>decide (e.born ≥ since))
 let take:=(old++new).map fun e=>(Value.tuple #[.bool true,e.key,e.val],cv.put r (.iter m since (seen++[e.born]) clock))
 some ((bif old.isEmpty then [(Value.tuple #[.bool false],cv.none)] else [])++take)
def ri (it:Value) (g:Nat→Option bf):Option (List (Value × cv)) :=
 match it with
 | .pointer (some ⟨r,0,none⟩) =>
  match g r with
  | some (.iter m since seen last) =>
   match map? (g m) with
   | some (es,clock)=>vv r m since seen last es clock
   | none=>none
  | _=>none
 | _=>none
def cW (o:Option Value):Option (Value × cv) :=
 match o with
 | some v=>bif flat v then some (v,.none) else none
 | none=>none
def sW (T:bL) (n:Nat) (t:TypeId):Option (Value × cv) :=
 match T.ty.get t with
 | some ⟨_,_,_,some z,_,_,_⟩=>bif z.cells.toList.all bh then some (ptr n 0,.new (.cells z.cells.toList true 0)) else none
 | _=>none
def Gw (n:Nat) (v:Value):Option (Value × cv) :=
 bif v.cells.toList.all bH then some (ptr n 0,.new (.cells v.cells.toList true 0)) else none
def nO (place:Nat→Option (Nat × Nat)) (cells:List Value):List (Nat × Value)→Option (List Value)
 | []=>some cells
 | (i,v) :: rest =>
  match place i with
  | none=>none
  | some (off,size) =>bif Nat.beq v.cells.toList.length size && Nat.ble (off+size) cells.length then nO place (splice cells v.cells.toList off) rest else none
def gW (und:TypeDesc) (cJ:List (Nat × Nat)) (cS i:Nat):Option (Nat × Nat) :=
 match und with
 | .struct _=>cJ[i]?
 | .array ..=>some (i * cS,cS)
 | _=>none
def qz (T:bL) (t:TypeId) (parts:List (Nat × Value)):Option (Value × cv) :=
 match T.ty.get t with
 | some ⟨und,_,_,some z,true,cJ,cS⟩ =>bif z.cells.toList.all bh then (nO (gW und cJ cS) z.cells.toList parts).map fun c=>(.agg c.toArray,.none) else none
 | _=>none
def ic (T:bL) (n:Nat) (t:TypeId) (len:Nat) (parts:List (Nat × Value)):Option (Value × cv) :=
 match elem? T t with
 | some inf =>
  bif Nat.ble (len * inf.size) 65536 && bZ inf then
   match nO (fun i=>some (i * inf.size,inf.size)) (cr ((inf.zero.map fun z=>z.cells.toList).getD []) (len * inf.size)) parts with
   | some cells=>some (.slice (some ⟨n,0,none⟩) len len,.new (.cells cells true inf.size))
   | none=>none
  else none
 | none=>none
def eV (T:bL) (t:TypeId) (a:Value) (g:Nat→Option bf):Option (Value × cv) :=
 match addr? a with
 | some (k,o) =>
  match cells? (g k),T.ty.get t with
  | some (cs,_,_),some ⟨_,s,_,_,agg,_,_⟩=>bif agg then (cut cs o s).map fun c=>(.agg c.toArray,.none) else (cs[o]?).map fun v=>(v,.none)
  | _,_=>none
 | none=>none
def eB (T:bL) (t:TypeId) (a v:Value) (g:Nat→Option bf):Option (Value × cv) :=
 match addr? a with
 | some (k,o) =>
  match cells? (g k),T.ty.get t with
  | some (cs,own,es),some ⟨_,s,_,_,_,_,_⟩ =>bif own && Nat.beq v.cells.toList.length s && Nat.ble (o+s) cs.length && v.cells.toList.all bH then some (undef,.put k (.cells (splice cs v.cells.toList o) true es)) else none
  | _,_=>none
 | none=>none
def dV (T:bL) (t:TypeId) (a:Value) (i:Nat):Option (Value × cv) :=
 match addr? a,T.ty.get t with
 | some (k,o),some ⟨.struct _,_,_,_,_,cJ,_⟩ =>
  match cJ[i]? with
  | some (off,s)=>bif Nat.ble 1 s then some (ptr k (o+off),.none) else none
  | none=>none
 | _,_=>none
def HQ:Int→Int→Bool
 | .ofNat a,.ofNat b=>Nat.ble a b
 | .negSucc _,.ofNat _=>true
 | .ofNat _,.negSucc _=>false
 | .negSucc a,.negSucc b=>Nat.ble b a
def Gx (a b:Int):Bool:=!HQ b a
def Fu:Int→Int→Bool
 | .ofNat a,.ofNat b=>Nat.beq a b
 | .negSucc a,.negSucc b=>Nat.beq a b
 | _,_=>false
def yS (c:Int):Bool:=HQ (.negSucc 9223372036854775807) c && HQ c (.ofNat 9223372036854775807)
def qa (cS k o len:Nat) (j:Int):Option (Value × cv) :=
 bif HQ 0 j && Gx j (.ofNat len) then some (ptr k (o+j.toNat * cS),.none) else none
def dW (T:bL) (t:TypeId) (a ix:Value):Option (Value × cv) :=
 match intOf? ix,T.ty.get t with
 | some j,some ⟨.array len _,_,_,_,_,_,cS⟩=>match addr? a with
  | some (k,o)=>qa cS k o len j
  | none=>none
 | some j,some ⟨.slice _,_,_,_,_,_,cS⟩=>match a with
  | .slice (some ⟨k,o,none⟩) len _=>qa cS k o len j
  | _=>none
 | _,_=>none
def ig {α:Type} (ok:Bool) (o:Option α):Option α:=bif ok then o else none
def oe (c:Int):Option Value:=bif yS c then some (.int .i64 c) else none
def jU (o:BinOp) (x y:Int):Option Value :=
 match o with
 | .add=>oe (Int.add x y)
 | .sub=>oe (Int.sub x y)
 | .mul=>oe (Int.mul x y)
 | .eql=>some (.bool (Fu x y))
 | .neq=>some (.bool (!Fu x y))
 | .lss=>some (.bool (Gx x y))
 | .leq=>some (.bool (HQ x y))
 | .gtr=>some (.bool (Gx y x))
 | .geq=>some (.bool (HQ y x))
 | _=>none
def fS (P:Program) (o:BinOp) (t:TypeId) (x y:Operand) (a b:Value):Option (Value × cv) :=
 bif flat a && flat b then cW (aK P (do eqGuard o t x y a b;binOp o t a b)) else none
def jA (o:BinOp):Option (Value × cv) :=
 match o with
 | .eql=>some (.bool false,.none)
 | .neq=>some (.bool true,.none)
 | _=>none
def mj (P:Program) (t:TypeId):Bool :=
 match aK P (underlying t) with
 | some (.slice _)=>true
 | _=>false
def qA (P:Program) (t:TypeId):Bool :=
 match aK P (underlying t) with
 | some (.pointer _)=>true
 | _=>false
def eA (P:Program) (o:BinOp) (t:TypeId) (x y:Operand) (a b:Value):Option (Value × cv) :=
 match a,b with
 | .int .i64 m,.int .i64 n=>match jU o m n with
  | some v=>some (v,.none)
  | none=>fS P o t x y a b
 | .slice (some _) _ _,.slice none 0 0=>bif mj P t then jA o else none
 | .pointer (some _),.pointer none=>bif qA P t then jA o else none
 | _,_=>fS P o t x y a b
def zY (P:Program) (args:List Value):Option (Value × cv) :=
 match args with
 | [.int .i64 x,.int .i64 y]=>some (.int .i64 (bif Gx y x then y else x),.none)
 | _=>bif args.all flat then cW (aK P (Builtin.min_ #[] 0 args.toArray)) else none
def zZ (P:Program) (args:List Value):Option (Value × cv) :=
 match args with
 | [.int .i64 x,.int .i64 y]=>some (.int .i64 (bif Gx x y then y else x),.none)
 | _=>bif args.all flat then cW (aK P (Builtin.max_ #[] 0 args.toArray)) else none
def gi (x:Value) (i:Nat):Option (Value × cv) :=
 match x with
 | .tuple vs=>(vs.toList[i]?).map fun v=>(v,.none)
 | _=>none
def sX (T:bL) (n:Nat) (t:TypeId) (x:Value) (g:Nat→Option bf):Option (Value × cv) :=
 match T.ty.get t,x with
 | some ⟨.map ..,_,_,_,_,_,_⟩,.map (some m)=>match map? (g m) with
  | some (_,clock)=>some (ptr n 0,.new (.iter m clock [] clock))
  | none=>none
 | some ⟨.string,_,_,_,_,_,_⟩,.string s=>some (ptr n 0,.new (.dQ s 0))
 | _,_=>none
def kz (it:Value) (g:Nat→Option bf):Option (Value × cv) :=
 match addr? it with
 | some (r,0)=>match g r with
  | some (.dQ s pos)=>bif Nat.blt pos s.data.toList.length then
    some (.tuple #[.bool true,.int .i64 pos,.int .i32 (Utf8.decode s pos).1],.put r (.dQ s (pos+(Utf8.decode s pos).2)))
   else some (.tuple #[.bool false],.none)
  | _=>none
 | _=>none
def sY (it:Value) (g:Nat→Option bf):Option (Value × cv) :=
 match addr? it with
 | some (r,0)=>match g r with
  | some (.iter m _ seen stepped)=>match seen.getLast?,map? (g m) with
   | some stamp,some (es,clock)=>bif Nat.beq clock stepped then (es.find? (·.born == stamp)).map fun e=>(.tuple #[e.key,e.val],.none) else none
   | _,_=>none
  | _=>none
 | _=>none
def kA (T:bL) (t:TypeId) (x:Value) (g:Nat→Option bf):Option (Value × cv) :=
 match T.ty.get t,x with
 | some ⟨.slice _,_,_,_,_,_,_⟩,.slice _ m _=>some (.int .i64 m,.none)
 | some ⟨.map ..,_,_,_,_,_,_⟩,.map (some r)=>match map? (g r) with
  | some (es,_)=>some (.int .i64 es.length,.none)
  | none=>none
 | some ⟨.array n _,_,_,_,_,_,_⟩,_=>some (.int .i64 n,.none)
 | some ⟨.string,_,_,_,_,_,_⟩,.string s=>some (.int .i64 s.data.toList.length,.none)
 | _,_=>none
def og (T:bL) (t:TypeId) (x:Value) (g:Nat→Option bf):Option (Value × cv) :=
 match T.ty.get t,x with
 | some ⟨.map ..,_,_,_,_,_,_⟩,.map (some r)=>match map? (g r) with
  | some (_,clock)=>some (.tuple #[],.put r (.map [] clock))
  | none=>none
 | some ⟨.slice _,_,_,_,_,_,_⟩,.slice (some ⟨k,o,none⟩) n _=>match elem? T t,cells? (g k) with
  | some inf,some (cs,own,es)=>bif Nat.ble 1 n && own && bZ inf && Nat.ble (o+n * inf.size) cs.length then
   some (.tuple #[],.put k (.cells (splice cs (cr ((inf.zero.map fun z=>z.cells.toList).getD []) (n * inf.size)) o) true es)) else none
  | _,_=>none
 | _,_=>none
def iE (T:bL) (n:Nat) (b:Builtin) (args:List Value) (tys:List TypeId) (g:Nat→Option bf):Option (Value × cv) :=
 match b with
 | .len=>match args,tys with
  | [x],[t]=>kA T t x g
  | _,_=>none
 | .min=>zY T.P args
 | .max=>zZ T.P args
 | .clear=>match args,tys with
  | [x],[t]=>og T t x g
  | _,_=>none
 | .append=>match args,tys with
  | [s,x],[t,u]=>match T.ty.get u with
   | some ⟨.slice _,_,_,_,_,_,_⟩=>gy T n t s x g
   | _=>none
  | _,_=>none
 | _=>none
def BN (T:bL) (n:Nat) (c:Call) (ρ:Operand→Value) (g:Nat→Option bf):Option (Value × cv) :=
 match c.callee with
 | .builtin b=>iE T n b (c.args.toList.map ρ) c.argTypes.toList g
 | _=>none
def uw (c a b:Value):Option (Value × cv) :=
 match c with
 | .bool t=>some (bif t then a else b,.none)
 | _=>none
def gj (T:bL) (t:TypeId) (x:Value) (lo hi:Option Value):Option (Value × cv) :=
 match x with
 | .string _=>bif lo.toList.all flat && hi.toList.all flat then cW (aK T.P (Instr.sliceAt t x lo hi none)) else none
 | .pointer _=>(pe T t x lo hi).map fun v=>(v,.none)
 | _=>(qy T t x lo hi).map fun v=>(v,.none)
def jc (x:Value):Option (Value × cv) :=
 match x with
 | .pointer (some a)=>some (.pointer (some a),.none)
 | _=>none
def mo (fn:Fn) (first captured:List Value):Option (Value × cv) :=
 match fn with
 | .func f=>some (.func (.func f) first.toArray captured.toArray,.none)
 | _=>none
def iU (T:bL) (n:Nat) (op:Op) (ρ:Operand→Value) (g:Nat→Option bf):Option (Value × cv) :=
 match op with
 | .move x=>some (ρ x,.none)
 | .assign x=>some (ρ x,.none)
 | .pick c a b=>uw (ρ c) (ρ a) (ρ b)
 | .alloc t=>sW T n t
 | .box _ x=>Gw n (ρ x)
 | .build t parts=>qz T t (parts.toList.map fun (i,x)=>(i,ρ x))
 | .buildSlice t len parts=>ic T n t len (parts.toList.map fun (i,x)=>(i,ρ x))
 | .load t a=>eV T t (ρ a) g
 | .store t a x=>eB T t (ρ a) (ρ x) g
 | .fieldAddr t a i=>dV T t (ρ a) i
 | .indexAddr t a ix=>dW T t (ρ a) (ρ ix)
 | .index t a ix=>bif flat (ρ a) && flat (ρ ix) then cW (aK T.P (Instr.index t (ρ a) (ρ ix))) else none
 | .field t a i=>bif flat (ρ a) then cW (aK T.P (Instr.field t (ρ a) i)) else none
 | .binOp o t x y _=>eA T.P o t x y (ρ x) (ρ y)
 | .unOp o _ x=>bif flat (ρ x) then cW (aK T.P (Op.unary o (ρ x))) else none
 | .convert s d x=>bif flat (ρ x) then cW (aK T.P (convert s d (ρ x))) else none
 | .makeInterface t x=>bif flat (ρ x) then cW (aK T.P (Instr.makeInterface t (ρ x))) else none
 | .extract x i=>gi (ρ x) i
 | .makeFunc fn first captured=>mo fn (first.toList.map ρ) (captured.toList.map ρ)
 | .nilCheck x=>jc (ρ x)
 | .slice t x lo hi none=>gj T t (ρ x) (lo.map ρ) (hi.map ρ)
 | .slice t x lo (some hi) (some m)=>(jT T t (ρ x) (lo.map ρ) (ρ hi) (ρ m)).map fun v=>(v,.none)
 | .makeSlice t l c=>jb T n t (ρ l) (ρ c)
 | .makeMap _ none=>some (.map (some n),.new (.map [] 0))
 | .lookup t m k ok=>(kZ T t (ρ m) (ρ k) ok g).map fun v=>(v,.none)
 | .mapEntry t m k=>eY T t (ρ m) (ρ k) g
 | .entryStore _ m s v=>(dB (ρ m) (ρ s) (ρ v) g).map fun e=>(undef,e)
 | .mapUpdate t m k v=>(eR T t (ρ m) (ρ k) (ρ v) g).map fun e=>(undef,e)
 | .range t x=>sX T n t (ρ x) g
 | .next it true=>kz (ρ it) g
 | .entry it=>sY (ρ it) g
 | .call c=>BN T n c ρ g
 | _=>none
structure St where
 fr:Tr Value
 hp:Hp
 rd:Bool
def aQ (fr:Tr Value):Operand→Value
 | .tmp t=>(fr.get t).getD undef
 | .const v=>v
 | .global g=>.pointer (some ⟨g,0,none⟩)
 | .func f=>.func (.func f) #[] #[]
def ux:Operand→Bool
 | .tmp _|.func _=>true
 | .const v=>flat v
 | .global _=>false
def vw (acc:List Nat) (l:List Edge):Nat:=l.foldr (fun e s=>cond (Region.binds .any e) (s ||| 2 ^ e.on ||| acc.getD e.on 0) s) 0
def PE:List Oper→List Nat→List Nat
 | [],acc=>acc
 | o :: l,acc=>PE l (acc++[vw acc o.after.toList])
def oc (ops:Array Oper):List Nat:=PE ops.toList []
def Fv (ops:Array Oper) (b:List Nat):List (Oper × Nat)→Bool
 | []=>true
 | (x,i) :: l=>l.all (fun (y,j)=>x.apart ops y || (b.getD j 0).testBit i) && Fv ops b l
def BO (ops:Array Oper):Bool :=
 Fv ops (oc ops) ops.toList.zipIdx && ops.toList.zipIdx.all fun (o,i)=>o.after.toList.all fun e=>!Region.binds .any e || decide (e.on < i)
def codeOk (n:Nat):Code→Bool
 | .region _ ops draw=>(!draw || BO ops) && ops.toList.all fun o=>o.op.operands.toList.all ux && (match o.dst with|some d=>Nat.blt d n|none=>true)
 | .seq a b=>codeOk n a && codeOk n b
 | .cond c a b=>ux c && codeOk n a && codeOk n b
 | .block _ c|.loop c|.scope c=>codeOk n c
 | .rangeFunc f ps a b=>ux f && ps.toList.all (Nat.blt · n) && codeOk n a && codeOk n b
 | _=>true
inductive qW where
 | call (f:FuncId) (args:List Value) (hp:Hp)
 | round (l:Nat) (args:List Value) (hp:Hp)
 | loop (c:Code) (st:St)
inductive gL where
 | ret (v:Value) (hp:Hp)
 | out (e:Exit) (st:St)
def dj {α β:Type} (l:List α) (f:α→Option (List β)):Option (List β) :=
 List.rec (motive:=fun _=>Option (List β)) (some []) (fun a t ih=>match t with
  | []=>f a
  | _ :: _=>match f a with
   | some x=>ih.map (x++·)
   | none=>none) l
def fC (fr:Tr Value):Option Tmp→Value→Tr Value
 | some d,v=>fr.set d v
 | none,_=>fr
inductive Goal where
 | fn (f:FuncId) (args:List Value)
 | yield (l:Nat) (args:List Value)
def dD (v:Value) (args:List Value):Option Goal :=
 match v with
 | .func (.func f) first captured=>some (.fn f (first.toList++args++captured.toList))
 | .func (.yield l) first _=>some (.yield l (first.toList++args))
 | _=>none
inductive RC where
 | op (f:Operand)
 | Gy (r:Operand) (name:String)
def vz (P:Program) (v:Value) (name:String):Value :=
 match v with
 | .iface t x=>match aK P (method (P.types.size+Made.depth) t x name) with
  | some (f,r)=>bif flat r then .func (.func f) #[r] #[] else undef
  | none=>undef
 | _=>undef
inductive Kind where
 | call (f:RC) (args:List Operand)
 | next (it:Operand)
 | plain
def dF (o:Op):Kind :=
 match o with
 | .call ⟨.value f,args,_⟩=>.call (.op f) args.toList
 | .call ⟨.invoke r name,args,_⟩=>.call (.Gy r name) args.toList
 | .next it false=>.next it
 | _=>.plain
def jB (H:Hp):Goal→qW
 | .fn f args=>.call f args H
 | .yield l args=>.round l args H
def valOf:gL→Option (List (Value × Hp))
 | .ret v hp=>some [(v,hp)]
 | .out ..=>none
def mq (P:Program) (fr:Tr Value):RC→Value
 | .op f=>aQ fr f
 | .Gy r name=>vz P (aQ fr r) name
section
variable (T : bL) (rec : qW → Option (List gL))
def gk (o:Op) (st:St):Option (List (Value × Hp)) :=
 match dF o with
 | .call f args =>
  match dD (mq T.P st.fr f) (args.map (aQ st.fr)) with
  | some g=>match rec (jB st.hp g) with
   | some L=>dj L valOf
   | none=>none
  | none=>none
 | .next it=>(ri (aQ st.fr it) st.hp.get).map fun L=>L.map fun (v,e)=>(v,st.hp.app e)
 | .plain=>match iU T st.hp.n o (aQ st.fr) st.hp.get with
  | some (v,e)=>some [(v,st.hp.app e)]
  | none=>none
def bX (ops:List Oper) (fr:Tr Value):Option (Nat × Bool)→Bool
 | none=>true
 | some (j,want)=>match ops[j]? with
  | some ⟨some d,_,_,_,_,_⟩=>match fr.get d with
   | some (.bool b)=>b == want
   | _=>false
  | _=>false
def bU (ops:List Oper) (l:List Oper):St→Option (List St) :=
 List.rec (motive:=fun _=>St→Option (List St)) (fun st=>some [st])
  (fun o _ ih st=>cond (bX ops st.fr o.guard)
   (match gk T rec o.op st with
    | some L=>dj L fun p=>ih ⟨fC st.fr o.dst p.1,p.2,st.rd⟩
    | none=>none)
   (ih ⟨fC st.fr o.dst undef,st.hp,st.rd⟩)) l
structure Tc where
 idx:Nat
 rd:List Nat
 wr:List Nat
 call:Bool
 a:Nat
 b:Nat
def cB:Value→List Nat
 | .pointer (some ⟨k,_,_⟩)=>[k]
 | .slice (some ⟨k,_,_⟩) _ _=>[k]
 | .map (some k)=>[k]
 | _=>[]
def iX (o:Op) (ρ:Operand→Value):Option (List Nat × List Nat) :=
 match o with
 | .load _ a=>some (cB (ρ a),[])
 | .store _ a _=>some ([],cB (ρ a))
 | .lookup _ m _ _=>some (cB (ρ m),[])
 | .mapEntry _ m _=>some ([],cB (ρ m))
 | .entryStore _ m _ _=>some ([],cB (ρ m))
 | .mapUpdate _ m _ _=>some ([],cB (ρ m))
 | .range ..|.next ..|.entry _=>none
 | .call ⟨.builtin .append,args,_⟩=>match args.toList.map ρ with
  | [s,x]=>some (cB x,cB s)
  | _=>none
 | .call ⟨.builtin .len,args,_⟩=>match args.toList.map ρ with
  | [x]=>some (cB x,[])
  | _=>none
 | .call ⟨.builtin .clear,_,_⟩=>none
 | _=>some ([],[])
def meets (a b:List Nat):Bool:=a.any fun x=>b.any fun y=>Nat.beq x y
def within (a b:Nat) (l:List Nat):Bool:=l.any fun k=>Nat.ble a k && Nat.blt k b
def conflict (s t:Tc):Bool :=
 meets s.wr t.rd || meets s.wr t.wr || meets t.wr s.rd || (s.call && !t.wr.isEmpty) || (t.call && !s.wr.isEmpty) ||
  within s.a s.b t.rd || within s.a s.b t.wr || within t.a t.b s.rd || within t.a t.b s.wr
structure Ev where
 o:Oper
 st:St
 v:Value
 hp:Hp
 t:Tc
def rj:List UInt8→List UInt8→Bool
 | [],[]=>true
 | a :: l,b :: m=>Nat.beq a.toNat b.toNat && rj l m
 | _,_=>false
def Gz:Value→Value→Bool
 | .bool a,.bool b=>a == b
 | .int k a,.int l b=>(k == l) && Fu a b
 | .string s,.string t=>rj s.data.toList t.data.toList
 | .pointer none,.pointer none=>true
 | .slice none 0 0,.slice none 0 0=>true
 | .map none,.map none=>true
 | .nilFunc,.nilFunc=>true
 | .nilIface,.nilIface=>true
 | _,_=>false
def spare (ev ev':Ev):Bool :=
 match ev.t.rd,ev.t.wr with
 | [_],[]=>Nat.beq ev.t.a ev.t.b && !ev.t.call && !ev'.t.call &&
  (match iU T ev.st.hp.n ev.o.op (aQ ev.st.fr) ev'.hp.get with
   | some (v,.none)=>Gz v ev.v
   | _=>false)
 | _,_=>false
def kX (ev:Ev):Option (Nat × Nat × List Value) :=
 match ev.o.op with
 | .store _ a x=>match aQ ev.st.fr a with
  | .pointer (some ⟨k,o,none⟩)=>some (k,o,(aQ ev.st.fr x).cells.toList)
  | _=>none
 | _=>none
def mw (ev:Ev):Option (Nat × Nat × Nat) :=
 match ev.o.op with
 | .store _ a x=>match aQ ev.st.fr a with
  | .pointer (some ⟨k,o,none⟩)=>some (k,o,(aQ ev.st.fr x).cells.toList.length)
  | _=>none
 | .load t a=>match aQ ev.st.fr a,T.ty.get t with
  | .pointer (some ⟨k,o,none⟩),some ⟨_,s,_,_,agg,_,_⟩=>some (k,o,bif agg then s else 1)
  | _,_=>none
 | _=>none
def gX (s t:Ev):Bool :=
 match mw T s,mw T t with
 | some (_,o,n),some (_,p,m)=>Nat.ble (o+n) p || Nat.ble (p+m) o
 | _,_=>false
def sZ (b:List Nat):List Ev→Bool
 | []=>true
 | t :: l=>l.all (fun s=>!conflict s.t t.t || (b.getD t.t.idx 0).testBit s.t.idx || spare T s t) && sZ b l
def oh (b:List Nat):List Ev→Bool
 | []=>true
 | t :: l=>l.all (fun s=>!conflict s.t t.t || (b.getD t.t.idx 0).testBit s.t.idx || gX T s t) && oh b l
def ez (b:List Nat) (l:List Ev):Bool:=sZ T b l || oh T b l
def dX (ops:Array Oper) (acc:List Ev):Bool :=
 bif acc.all (fun e=>e.t.wr.isEmpty && Nat.beq e.t.a e.t.b) then true else ez T (oc ops) acc
def RD (n lo:Nat):List Nat:=bif Nat.ble n lo then [] else List.range' lo (n - lo)
def kB (i:Nat) (st:St) (v:Value) (hp:Hp):Value × Hp × Tc :=
 (v,{hp with lo:=bif Nat.ble st.hp.n hp.lo then st.hp.lo else min st.hp.lo hp.lo},⟨i,[],RD st.hp.n hp.lo,true,st.hp.n,hp.n⟩)
def bu (o:Op) (i:Nat) (st:St):Option (Value × Hp × Tc) :=
 match dF o with
 | .call f args =>
  match dD (mq T.P st.fr f) (args.map (aQ st.fr)) with
  | some g=>match rec (jB {st.hp with lo:=st.hp.n} g) with
   | some [.ret v hp]=>some (kB i st v hp)
   | _=>none
  | none=>none
 | .next _=>none
 | .plain=>match iX o (aQ st.fr),iU T st.hp.n o (aQ st.fr) st.hp.get with
  | some (r,w),some (v,e)=>some (v,st.hp.app e,⟨i,r,w,false,st.hp.n,(st.hp.app e).n⟩)
  | _,_=>none
def cg (ops:Array Oper) (l:List Oper):Nat→St→List Ev→Option (List St) :=
 List.rec (motive:=fun _=>Nat→St→List Ev→Option (List St)) (fun _ st acc=>cond (dX T ops acc) (some [st]) none)
  (fun o _ ih i st acc=>cond (bX ops.toList st.fr o.guard)
   (match bu T rec o.op i st with
    | some (v,hp,t)=>ih (i+1) ⟨fC st.fr o.dst v,hp,st.rd⟩ (⟨o,st,v,hp,t⟩ :: acc)
    | none=>none)
   (ih (i+1) ⟨fC st.fr o.dst undef,st.hp,st.rd⟩ (⟨o,st,undef,st.hp,⟨i,[],[],false,st.hp.n,st.hp.n⟩⟩ :: acc))) l
def vA (o:Oper):Bool :=
 match o.op with
 | .call ⟨.value (.tmp _),_,_⟩=>true
 | _=>false
def ou (b:List Nat) (n c:Nat):Bool:=(List.range n).all fun j=>Nat.blt j c || (List.range j).all fun i=>(b.getD j 0).testBit i
def DM (l:List Oper) (b:List Nat) (c:Nat):Bool:=(match l[c]? with|some o=>vA o|none=>false) && ou b l.length c
def fR (ops:Array Oper):Nat :=
 match ops.toList.findIdx? vA with
 | some _=>((List.range ops.toList.length).find? (DM ops.toList (oc ops))).getD ops.toList.length
 | none=>ops.toList.length
def HS (i:Nat) (st:St):gL→Option (List (Value × Hp × Tc))
 | .ret v hp=>some [kB i st v hp]
 | _=>none
def eZ (o:Op) (i:Nat) (st:St):Option (List (Value × Hp × Tc)) :=
 match dF o with
 | .call f args =>
  match dD (mq T.P st.fr f) (args.map (aQ st.fr)) with
  | some g=>match rec (jB {st.hp with lo:=st.hp.n} g) with
   | some R=>dj R (HS i st)
   | none=>none
  | none=>none
 | _=>none
def gz (ops:Array Oper) (l:List Oper) (K:St→List Ev→Option (List St)):Nat→St→List Ev→Option (List St) :=
 List.rec (motive:=fun _=>Nat→St→List Ev→Option (List St)) (fun _ st acc=>K st acc)
  (fun o _ ih i st acc=>cond (bX ops.toList st.fr o.guard)
   (match bu T rec o.op i st with
    | some (v,hp,t)=>ih (i+1) ⟨fC st.fr o.dst v,hp,st.rd⟩ (⟨o,st,v,hp,t⟩ :: acc)
    | none=>none)
   (ih (i+1) ⟨fC st.fr o.dst undef,st.hp,st.rd⟩ (⟨o,st,undef,st.hp,⟨i,[],[],false,st.hp.n,st.hp.n⟩⟩ :: acc))) l
def plainO (o:Oper):Bool :=
 match dF o.op with
 | .plain=>true
 | _=>false
def HT (o:Oper):Bool :=
 match o.op with
 | .call ⟨.value (.func _),_,_⟩=>true
 | _=>false
def rm (b:List Nat) (n c:Nat):Bool:=(List.range n).all fun j=>Nat.blt j c || (List.range c).all fun i=>(b.getD j 0).testBit i
def s5 (o:Oper):Bool :=
 match o.op,o.guard with
 | .move _,none=>true
 | .assign _,none=>true
 | .extract _ _,none=>true
 | _,_=>false
def PF (l:List Oper) (b:List Nat) (c:Nat):Bool:=(match l[c]? with|some o=>HT o|none=>false) && (ou b l.length (c+1) || rm b l.length (c+1) && (l.drop (c+1)).all s5) && (l.drop (c+1)).all plainO
def vB (ops:Array Oper):Option Nat :=
 match ops.toList.findIdx? vA with
 | some _=>none
 | none=>(List.range ops.toList.length).find? (PF ops.toList (oc ops))
def kC (ops:Array Oper) (o:Oper) (c:Nat) (st:St):Option (List (Value × Hp × Tc)) :=
 bif bX ops.toList st.fr o.guard then eZ T rec o.op c st else some [(undef,st.hp,⟨c,[],[],false,st.hp.n,st.hp.n⟩)]
def vC (ops:Array Oper) (c:Nat) (st:St) (acc:List Ev):Option (List St) :=
 match ops.toList[c]? with
 | some o=>match kC T rec ops o c st with
  | some P=>bif P.all (fun p=>dX T ops (⟨o,st,p.1,p.2.1,p.2.2⟩ :: acc)) then dj P fun p=>bU T rec ops.toList (ops.toList.drop (c+1)) ⟨fC st.fr o.dst p.1,p.2.1,st.rd⟩ else none
  | none=>none
 | none=>none
def Fw (ops:Array Oper) (c:Nat) (st:St):Option (List St):=gz T rec ops (ops.toList.take c) (vC T rec ops c) 0 st []
def cM (ops:Array Oper) (st:St):Option (List St) :=
 match vB ops with
 | some c=>Fw T rec ops c st
 | none =>
  match cg T rec ops (ops.toList.take (fR ops)) 0 st [] with
  | some L=>dj L (bU T rec ops.toList (ops.toList.drop (fR ops)))
  | none=>none
def BP:gL→Option (List (Exit × St))
 | .out e s=>some [(e,s)]
 | .ret ..=>none
def gA (id:Nat) (p:Exit × St):Exit × St :=
 match p.1 with
 | .exit id'=>(bif Nat.beq id' id then .normal else .exit id',p.2)
 | _=>p
def jC (l:Nat) (fr:Tr Value) (rd:Bool):gL→Option (List (Exit × St))
 | .ret _ hp=>match hp.get l with
  | some (.loop s pend fr0 ps as bd) =>
   let st:St:=⟨fr,hp.put l (.loop .exhausted pend fr0 ps as bd),rd⟩
   match s,pend with
   | .busy,_=>none
   | _,none=>some [(.normal,st)]
   | _,some .ret=>some [(.ret,st)]
   | _,some (.exit id)=>some [(.exit id,st)]
   | _,_=>none
  | _=>none
 | .out ..=>none
def vD (ihb:St→Option (List (Exit × St))) (p:Exit × St):Option (List (Exit × St)) :=
 match p.1 with
 | .normal=>ihb p.2
 | e=>some [(e,p.2)]
def mU (f:Operand) (params:Array Tmp) (assign body:Code) (st:St):Option (List (Exit × St)) :=
 match dD (aQ st.fr f) [.func (.yield st.hp.n) #[] #[]] with
 | some (.fn g args)=>match rec (.call g args (st.hp.push (.loop .ready none st.fr params assign body))) with
  | some L=>dj L (jC st.hp.n st.fr st.rd)
  | none=>none
 | _=>none
def noGoto (p:Exit × St):Bool :=
 match p.1 with
 | .goto _=>false
 | _=>true
def vE (o:Option (List (Exit × St))):Option (List (Exit × St)) :=
 match o with
 | some L=>cond (L.all noGoto) (some L) none
 | none=>none
def bM (c:Code):St→Option (List (Exit × St)) :=
 Code.rec (motive:=fun _=>St→Option (List (Exit × St)))
  (fun st=>some [(.normal,st)])
  (fun _ ops draw st=>match cond draw (cM T rec ops st) (bU T rec ops.toList ops.toList st) with
   | some L=>some (L.map fun s=>(.normal,s))
   | none=>none)
  (fun _ _ iha ihb st=>match iha st with
   | some L=>dj L (vD ihb)
   | none=>none)
  (fun c _ _ iha ihb st=>match aQ st.fr c with
   | .bool t=>cond t (iha st) (ihb st)
   | _=>none)
  (fun id _ ih st=>match ih st with
   | some L=>some (L.map (gA id))
   | none=>none)
  (fun c _ st=>match rec (.loop c st) with
   | some L=>dj L BP
   | none=>none)
  (fun f params assign body _ _ st=>mU rec f params assign body st)
  (fun id st=>some [(.exit id,st)])
  (fun _ ih st=>vE (ih st))
  (fun _ st=>some [(.normal,st)])
  (fun _ _=>none)
  (fun st=>some [(.ret,st)])
  (fun _ _=>none) c
def setArgs:Tr Value→Nat→List Value→Tr Value
 | t,_,[]=>t
 | t,i,v :: vs=>setArgs (t.set i v) (i+1) vs
def fc (t:Tr Value):List (Tmp × Value)→Tr Value
 | []=>t
 | (d,v) :: l=>fc (t.set d v) l
def yT (fr:Tr Value) (hp:Hp):ResultVar→Option Value
 | .tmp t=>some ((fr.get t).getD undef)
 | .cell a t=>(eV T t ((fr.get a).getD undef) hp.get).map (·.1)
def k7 (fr:Tr Value) (hp:Hp):List ResultVar→Option (List Value)
 | []=>some []
 | r :: rs=>match yT T fr hp r with
  | some v=>(k7 fr hp rs).map (v :: ·)
  | none=>none
def dm:List Value→Value
 | [v]=>v
 | vs=>.tuple vs.toArray
def fE (rs:List ResultVar) (p:Exit × St):Option (List gL) :=
 match p.1 with
 | .normal|.ret=>(k7 T p.2.fr p.2.hp rs).map fun vs=>[.ret (dm vs) p.2.hp]
 | _=>none
def gB (l:Nat) (p:Exit × St):Option (List gL) :=
 match p.2.hp.get l with
 | some (.loop _ _ fr ps as bd)=>match p.1 with
  | .normal=>some [.ret (.bool true) (p.2.hp.put l (.loop .ready none fr ps as bd))]
  | .ret=>some [.ret (.bool false) (p.2.hp.put l (.loop .done (some .ret) fr ps as bd))]
  | .exit id=>some [.ret (.bool false) (p.2.hp.put l (.loop .done (some (.exit id)) fr ps as bd))]
  | _=>none
 | _=>none
def cX (l:Nat) (body:Code) (p:Exit × St):Option (List gL) :=
 match p.1 with
 | .normal=>match p.2.hp.get l with
  | some (.loop .ready pend fr ps as bd) =>
   match bM T rec body ⟨p.2.fr,p.2.hp.put l (.loop .busy pend fr ps as bd),true⟩ with
   | some L=>dj L (gB l)
   | none=>none
  | _=>none
 | _=>none
def fe (c:Code) (p:Exit × St):Option (List gL) :=
 match p.1 with
 | .normal=>rec (.loop c p.2)
 | e=>some [.out e p.2]
def iF:qW→Option (List gL)
 | .call f args hp=>match T.fn.get f with
  | some fn=>match fn.body with
   | some c =>
    match bM T rec c ⟨setArgs .leaf 0 args,hp,false⟩ with
    | some L=>dj L (fE T fn.results.toList)
    | none=>none
   | none=>none
  | none=>none
 | .round l args hp=>match hp.get l with
  | some (.loop .ready _ fr ps as bd) =>
   bif Nat.beq args.length ps.toList.length then
    match bM T rec as ⟨fc fr (ps.toList.zip args),hp,true⟩ with
    | some L=>dj L (cX T rec l bd)
    | none=>none
   else none
  | _=>none
 | .loop c st=>match bM T rec c st with
  | some L=>dj L (fe rec c)
  | none=>none
end
def run (T:bL) (n:Nat):qW→Option (List gL) :=
 Nat.rec (motive:=fun _=>qW→Option (List gL)) (fun _=>none) (fun _ ih j=>iF T ih j) n
end
namespace Tr
variable {α : Type}
theorem mz (i:Nat):(Tr.leaf:Tr α).get i=none:=rfl
theorem HU (l r:Tr α) (v:Option α) (i:Nat) :
 (Tr.node l v r).get i=cond (Nat.beq i 0) v (cond (Nat.beq (Nat.mod i 2) 1) (l.get (Nat.div i 2)) (r.get (Nat.pred (Nat.div i 2)))):=rfl
theorem beq_eq (a b:Nat):Nat.beq a b=decide (a=b):=by
 cases h:Nat.beq a b
 ·exact (decide_eq_false (fun e=>by subst e;simp at h)).symm
 ·exact (decide_eq_true (Nat.eq_of_beq_eq_true h)).symm
theorem HV {β:Type} (i:Nat) (a b c:β):cond (Nat.beq i 0) a (cond (Nat.beq (Nat.mod i 2) 1) b c)=if i=0 then a else if i % 2=1 then b else c:=by rw [beq_eq,beq_eq,show Nat.mod i 2=i % 2 from rfl];by_cases h0:i=0 <;> by_cases h1:i % 2=1 <;> simp [h0,h1]
theorem fO (l r:Tr α) (v:Option α) (i:Nat) :
  (Tr.node l v r).get i=if i=0 then v else if i % 2=1 then l.get (i / 2) else r.get (i / 2 - 1):=by
 rw [HU,HV];rfl
theorem GA (x:α) (f i:Nat):lone x (f+1) i=if i=0 then .node .leaf (some x) .leaf else if i % 2=1 then .node (lone x f (i / 2)) none .leaf else .node .leaf none (lone x f (i / 2 - 1)) :=
 (HV i _ _ _:_)
theorem HW (x:α) (i:Nat):(Tr.leaf:Tr α).set i x=lone x (i+1) i:=rfl
theorem HX (l r:Tr α) (v:Option α) (i:Nat) (x:α) :
  (Tr.node l v r).set i x=if i=0 then .node l (some x) r else if i % 2=1 then .node (l.set (i / 2) x) v r else .node l v (r.set (i / 2 - 1) x) :=
 (HV i _ _ _:_)
theorem HY (x:α):∀ (f i j:Nat),i < f→(lone x f i).get j=if j=i then some x else none:=by
 intro f
 induction f with
 | zero=>intro i j h;omega
 | succ f ih =>
  intro i j h;rw [GA];by_cases h0:i=0
  ·subst h0;simp only [if_true,fO,mz];split
   ·rfl
   ·split <;> rfl
  ·rw [if_neg h0];by_cases h1:i % 2=1
   ·rw [if_pos h1,fO,ih (i / 2) (j / 2) (by omega),mz];by_cases hj:j=i
    ·subst hj;rw [if_neg h0,if_pos h1,if_pos rfl,if_pos rfl]
    ·rw [if_neg hj];split
     ·rfl
     ·split
      ·rw [if_neg (by omega)]
      ·rfl
   ·rw [if_neg h1,fO,ih (i / 2 - 1) (j / 2 - 1) (by omega),mz];by_cases hj:j=i
    ·subst hj;rw [if_neg h0,if_neg h1,if_pos rfl,if_pos rfl]
    ·rw [if_neg hj];split
     ·rfl
     ·split
      ·rfl
      ·rw [if_neg (by omega)]
theorem iG (t:Tr α) (i j:Nat) (x:α):(t.set i x).get j=if j=i then some x else t.get j:=by
 induction t generalizing i j with
 | leaf=>rw [HW,HY x (i+1) i j (by omega),mz]
 | node l v r ihl ihr =>
  rw [HX];by_cases h0:i=0
  ·subst h0;rw [if_pos rfl,fO,fO];by_cases hj:j=0
   ·simp [hj]
   ·simp [hj]
  ·rw [if_neg h0];by_cases h1:i % 2=1
   ·rw [if_pos h1,fO,fO,ihl];by_cases hj:j=i
    ·subst hj;simp [h0,h1]
    ·rw [if_neg hj];by_cases hj0:j=0
     ·simp [hj0]
     ·by_cases hj1:j % 2=1
      ·simp only [hj0,hj1,if_false,if_true];rw [if_neg (by omega)]
      ·simp only [hj0,hj1,if_false]
   ·rw [if_neg h1,fO,fO,ihr];by_cases hj:j=i
    ·subst hj;simp [h0,h1]
    ·rw [if_neg hj];by_cases hj0:j=0
     ·simp [hj0]
     ·by_cases hj1:j % 2=1
      ·simp only [hj0,hj1,if_false,if_true]
      ·simp only [hj0,hj1,if_false];rw [if_neg (by omega)]
theorem z7 (t:Tr α) (i:Nat) (x:α):(t.set i x).get i=some x:=by rw [iG,if_pos rfl]
theorem vF (t:Tr α) {i j:Nat} (x:α) (h:j ≠ i):(t.set i x).get j=t.get j:=by rw [iG,if_neg h]
end Tr
theorem Hp.fh (h:Hp) (b:bf) (k:Nat):(h.push b).get k=if k=h.n then some b else h.get k:=Tr.iG _ _ _ _
theorem Hp.ju (h:Hp) (i:Nat) (b:bf) (k:Nat):(h.put i b).get k=if k=i then some b else h.get k:=Tr.iG _ _ _ _
abbrev aG:=Nat→Option bf
def iB (g:aG) (k:Nat) (b:bf):aG:=fun i=>if i=k then some b else g i
theorem Hp.jV (h:Hp) (b:bf):(h.push b).get=iB h.get h.n b:=funext fun k=>Hp.fh h b k
theorem Hp.k8 (h:Hp) (i:Nat) (b:bf):(h.put i b).get=iB h.get i b:=funext fun k=>Hp.ju h i b k
def cv.on (n:Nat) (g:aG):cv→aG
 | .none=>g
 | .new b=>iB g n b
 | .put k b=>iB g k b
 | .app k b=>iB (iB g k .dead) n b
theorem Hp.z8 (h:Hp) (e:cv):(h.app e).get=e.on h.n h.get:=by
 cases e with
 | none=>rfl
 | new b=>exact Hp.jV h b
 | put k b=>exact Hp.k8 h k b
 | app k b=>show ((h.put k .dead).push b).get=_;rw [Hp.jV,Hp.k8];rfl
structure Gm where
 loc:Nat→Option (Nat × Nat)
 cap:Nat→Nat
 B:Nat
inductive VR (γ:Gm):Value→Value→Prop
 | flat {v:Value} (h:bh v=true):VR γ v v
 | ptr {k o b d:Nat} (h:γ.loc k=some (b,d)):VR γ (.pointer (some ⟨k,o,none⟩)) (.pointer (some ⟨b,d+o,none⟩))
 | slice {k o b d n c c':Nat} (h:γ.loc k=some (b,d)) (hn:n≤c') (ht:c=n→c'=n) (hl:c=n+1→o=0∧c'=γ.cap k) (hk:n+3≤c→c≤c'+3) :
  VR γ (.slice (some ⟨k,o,none⟩) n c) (.slice (some ⟨b,d+o,none⟩) n c')
 | dc {k o c c':Nat} {a':Addr} (h0:c ≠ 1) (ht:c=0→c'=0) (h2:c≤2):VR γ (.slice (some ⟨k,o,none⟩) 0 c) (.slice (some a') 0 c')
 | map {k b:Nat} (h:γ.loc k=some (b,0)):VR γ (.map (some k)) (.map (some b))
 | func {f:FuncId} {fs fs' cs cs':Array Value} (h1:fs.size=fs'.size) (h2:cs.size=cs'.size)
  (hf:∀ i (a:i < fs.size) (b:i < fs'.size),VR γ fs[i] fs'[i]) (hc:∀ i (a:i < cs.size) (b:i < cs'.size),VR γ cs[i] cs'[i]) :
  VR γ (.func (.func f) fs cs) (.func (.func f) fs' cs')
 | yield {l b:Nat} (h:γ.loc l=some (b,0)):VR γ (.func (.yield l) #[] #[]) (.func (.yield b) #[] #[])
 | agg {cs cs':Array Value} (h1:cs.size=cs'.size) (hc:∀ i (a:i < cs.size) (b:i < cs'.size),VR γ cs[i] cs'[i]):VR γ (.agg cs) (.agg cs')
 | tuple {cs cs':Array Value} (h1:cs.size=cs'.size) (hc:∀ i (a:i < cs.size) (b:i < cs'.size),VR γ cs[i] cs'[i]):VR γ (.tuple cs) (.tuple cs')
structure Gm.Le (γ γ':Gm):Prop where
 loc:∀ k x,γ.loc k=some x→γ'.loc k=some x
 cap:∀ k x,γ.loc k=some x→γ'.cap k=γ.cap k
 B:γ'.B=γ.B
theorem Gm.Le.refl (γ:Gm):γ.Le γ:=⟨fun _ _ h=>h,fun _ _ _=>rfl,rfl⟩
theorem Gm.Le.trans {a b c:Gm} (h:a.Le b) (k:b.Le c):a.Le c :=
 ⟨fun i x hx=>k.loc i x (h.loc i x hx),fun i x hx=>(k.cap i x (h.loc i x hx)).trans (h.cap i x hx),k.B.trans h.B⟩
theorem VR.mono {γ γ':Gm} (hle:γ.Le γ') {v v':Value} (h:VR γ v v'):VR γ' v v':=by
 induction h with
 | flat h=>exact .flat h
 | ptr h=>exact .ptr (hle.loc _ _ h)
 | slice h hn ht hl hk=>exact .slice (hle.loc _ _ h) hn ht (fun e=>⟨(hl e).1,(hl e).2.trans (hle.cap _ _ h).symm⟩) hk
 | dc h0 ht h2=>exact .dc h0 ht h2
 | map h=>exact .map (hle.loc _ _ h)
 | func h1 h2 _ _ ih1 ih2=>exact .func h1 h2 ih1 ih2
 | yield h=>exact .yield (hle.loc _ _ h)
 | agg h1 _ ih=>exact .agg h1 ih
 | tuple h1 _ ih=>exact .tuple h1 ih
def cy (γ:Gm) (l l':List Value):Prop:=l.length=l'.length∧∀ (i:Nat) (v v':Value),l[i]?=some v→l'[i]?=some v'→VR γ v v'
theorem cy.nil (γ:Gm):cy γ [] []:=⟨rfl,by simp⟩
theorem cy.cons {γ:Gm} {v v':Value} {l l':List Value} (h:VR γ v v') (t:cy γ l l'):cy γ (v :: l) (v' :: l') :=
 ⟨by simp [t.1],fun i a a' ha ha'=>by
  cases i with
  | zero=>simp at ha ha';subst ha;subst ha';exact h
  | succ i=>exact t.2 i a a' (by simpa using ha) (by simpa using ha')⟩
theorem cy.mono {γ γ':Gm} (hle:γ.Le γ') {l l':List Value} (h:cy γ l l'):cy γ' l l':=⟨h.1,fun i v v' a b=>(h.2 i v v' a b).mono hle⟩
theorem cy.append {γ:Gm} {a a' b b':List Value} (h:cy γ a a') (k:cy γ b b'):cy γ (a++b) (a'++b'):=by
 refine ⟨by simp [h.1,k.1],fun i v v' hv hv'=>?_⟩;by_cases hi:i < a.length
 ·rw [List.getElem?_append_left hi] at hv;rw [List.getElem?_append_left (by rw [←h.1];exact hi)] at hv';exact h.2 i v v' hv hv'
 ·rw [List.getElem?_append_right (by omega)] at hv;rw [List.getElem?_append_right (by rw [←h.1];omega),←h.1] at hv';exact k.2 _ v v' hv hv'
theorem cy.take {γ:Gm} {a a':List Value} (h:cy γ a a') (n:Nat):cy γ (a.take n) (a'.take n):=by refine ⟨by simp [h.1],fun i v v' hv hv'=>?_⟩;have:=List.getElem?_eq_some_iff.1 hv;obtain ⟨hi,_⟩:=this;simp at hi;rw [List.getElem?_take_of_lt (by omega)] at hv hv';exact h.2 i v v' hv hv'
theorem cy.drop {γ:Gm} {a a':List Value} (h:cy γ a a') (n:Nat):cy γ (a.drop n) (a'.drop n):=by refine ⟨by simp [h.1],fun i v v' hv hv'=>?_⟩;rw [List.getElem?_drop] at hv hv';exact h.2 _ v v' hv hv'
theorem cy.splice {γ:Gm} {a a' b b':List Value} (h:cy γ a a') (k:cy γ b b') (o:Nat):cy γ (splice a b o) (splice a' b' o):=by unfold RM.splice;rw [←k.1];exact ((h.take o).append k).append (h.drop _)
theorem cy.get {γ:Gm} {l l':List Value} (h:cy γ l l') {i:Nat} {v:Value} (hv:l[i]?=some v):∃ v',l'[i]?=some v'∧VR γ v v':=by
 have hi:i < l.length:=(List.getElem?_eq_some_iff.1 hv).1;have hi':i < l'.length:=by rw [←h.1];exact hi
 exact ⟨l'[i],List.getElem?_eq_getElem hi',h.2 i v _ hv (List.getElem?_eq_getElem hi')⟩
theorem cy.mV {γ:Gm} {cs cs':Array Value} (h1:cs.size=cs'.size) (hc:∀ i (a:i < cs.size) (b:i < cs'.size),VR γ cs[i] cs'[i]):cy γ cs.toList cs'.toList:=by refine ⟨by simpa using h1,fun i v v' hv hv'=>?_⟩;obtain ⟨hi,e⟩:=List.getElem?_eq_some_iff.1 hv;obtain ⟨hi',e'⟩:=List.getElem?_eq_some_iff.1 hv';subst e;subst e';exact hc i (by simpa using hi) (by simpa using hi')
theorem cy.arr {γ:Gm} {cs cs':Array Value} (h:cy γ cs.toList cs'.toList):cs.size=cs'.size∧∀ i (a:i < cs.size) (b:i < cs'.size),VR γ cs[i] cs'[i] :=
 ⟨by simpa using h.1,fun i a b=>h.2 i _ _ (by simp [a]) (by simp [b])⟩
theorem VR.kD {γ:Gm} {l l':List Value} (h:cy γ l l'):VR γ (.agg l.toArray) (.agg l'.toArray) :=
 have h':=cy.arr (cs:=l.toArray) (cs':=l'.toArray) (by simpa using h)
 .agg h'.1 h'.2
theorem VR.cL {γ:Gm} {l l':List Value} (h:cy γ l l'):VR γ (.tuple l.toArray) (.tuple l'.toArray) :=
 have h':=cy.arr (cs:=l.toArray) (cs':=l'.toArray) (by simpa using h)
 .tuple h'.1 h'.2
theorem VR.undef (γ:Gm):VR γ undef undef:=.tuple rfl (fun i a _=>absurd a (by simp))
theorem VR.bN {γ:Gm} {v v':Value} (h:VR γ v v') (hf:bh v=true):v'=v:=by cases h <;> first|rfl|simp [bh] at hf
theorem cy.cU {γ:Gm}:∀ {l l':List Value},cy γ l l'→l.all bh=true→l'=l
 | [],[],_,_=>rfl
 | [],_ :: _,h,_=>by simp [cy] at h
 | _ :: _,[],h,_=>by simp [cy] at h
 | v :: l,v' :: l',h,hf=>by simp only [List.all_cons,qq7] at hf;have h1:=VR.bN (h.2 0 v v' rfl rfl) hf.1;have h2:cy γ l l':=⟨by simpa using h.1,fun i a a' x y=>h.2 (i+1) a a' (by simpa using x) (by simpa using y)⟩;rw [h1,cy.cU h2 hf.2]
theorem VR.cU {γ:Gm} {v v':Value} (h:VR γ v v') (hf:RM.flat v=true):v'=v:=by
 cases h with
 | flat=>rfl
 | agg h1 hc =>rename_i cs cs';have:=cy.cU (cy.mV h1 hc) (by simpa [RM.flat] using hf);rw [Array.toList_inj.1 this]
 | tuple h1 hc =>
  rename_i cs cs';have h0:cs.size=0:=by simpa [RM.flat] using hf
  have e1:cs=#[]:=Array.eq_empty_of_size_eq_zero h0;have e2:cs'=#[]:=Array.eq_empty_of_size_eq_zero (by omega);rw [e1,e2]
 | _=>simp [RM.flat,bh] at hf
theorem VR.of_flat {γ:Gm} {v:Value} (hf:RM.flat v=true):VR γ v v:=by
 cases v with
 | agg cs =>refine .agg rfl fun i a _=>.flat ?_;exact List.all_eq_true.1 (show cs.toList.all bh=true from hf) _ (by simp)
 | tuple cs =>
  have h0:cs=#[]:=by simpa [RM.flat] using hf
  subst h0;exact VR.undef γ
 | _=>exact .flat hf
theorem cy.of_flat {γ:Gm} {l:List Value} (hf:l.all bh=true):cy γ l l:=by refine ⟨rfl,fun i v v' a b=>?_⟩;rw [a] at b;cases b;exact .flat (List.all_eq_true.1 hf v (List.mem_of_getElem? a))
theorem VR.cells {γ:Gm} {v v':Value} (h:VR γ v v'):cy γ v.cells.toList v'.cells.toList:=by
 have one:∀ {x x':Value},VR γ x x'→cy γ [x] [x']:=fun h=>.cons h (.nil γ)
 cases h with
 | agg h1 hc=>exact cy.mV h1 hc
 | tuple h1 hc=>exact one (.tuple h1 hc)
 | flat h=>cases v <;> first|exact one (.flat h)|simp [bh] at h
 | ptr h=>exact one (.ptr h)
 | slice h hn ht hl hk=>exact one (.slice h hn ht hl hk)
 | dc h0 ht h2=>exact one (.dc h0 ht h2)
 | map h=>exact one (.map h)
 | func a b c d=>exact one (.func a b c d)
 | yield h=>exact one (.yield h)
theorem VR.bH {γ:Gm} {v v':Value} (h:VR γ v v') (ho:RM.bH v=true):v'.oneCell'=true:=by
 cases h with
 | flat h=>cases v <;> first|rfl|simp [bh] at h
 | agg=>simp [RM.bH] at ho
 | tuple=>simp [RM.bH] at ho
 | _=>rfl
theorem cy.bH {γ:Gm} {l l':List Value} (h:cy γ l l') (ho:l.all RM.bH=true):∀ u ∈ l',u.oneCell'=true:=by
 intro u hu;obtain ⟨i,hi,e⟩:=List.getElem_of_mem hu;have hi2:i < l.length:=by rw [h.1];exact hi
 have h1:=h.2 i l[i] u (List.getElem?_eq_getElem hi2) (by rw [List.getElem?_eq_getElem hi,e]);exact h1.bH (List.all_eq_true.1 ho _ (List.getElem_mem hi2))
def dM (γ:Gm) (cs:List Value) (cs':Array Value) (o:Nat):Prop:=∀ (j:Nat) (v:Value),cs[j]?=some v→∃ v',cs'[o+j]?=some v'∧VR γ v v'
def jJ (γ:Gm) (es:List MapEntry) (es':Array MapEntry):Prop :=
 es.length=es'.size∧∀ (i:Nat) (e e':MapEntry),es[i]?=some e→es'[i]?=some e'→VR γ e.key e'.key∧VR γ e.val e'.val∧e.born=e'.born
def x6 (γ:Gm) (fr:Tr Value) (tm:Array Value):Prop:=∀ i,VR γ ((fr.get i).getD undef) (tm.getD i undef)
def BQ (γ:Gm) (heap:Array Obj) (k b o:Nat):bf→Prop
 | .cells cs own es=>∃ cs' e fz,heap[b]?=some (.cells cs' e fz)∧dM γ cs cs' o∧(own=true→fz=(0,0)∧o=0∧γ.B≤b∧γ.cap k * es≤cs'.size)
 | .dead=>True
 | .map es clock=>o=0∧γ.B≤b∧∃ es',heap[b]?=some (.map es' clock)∧jJ γ es es'
 | .iter m since seen stepped=>o=0∧γ.B≤b∧∃ m',γ.loc m=some (m',0)∧heap[b]?=some (.mapIter (some m') since seen.toArray stepped)
 | .loop st pend fr ps as bd=>o=0∧γ.B≤b∧∃ fn tm df',heap[b]?=some (.loop {state:=st,pending:=pend,fn,tmps:=tm,params:=ps,assign:=as,body:=bd,defers:=df'}) ∧
  x6 γ fr tm∧codeOk tm.size as=true∧codeOk tm.size bd=true∧(∀ p ∈ ps,p < tm.size)
 | .dQ s pos=>o=0∧γ.B≤b∧heap[b]?=some (.stringIter s pos)
def bf.own:bf→Bool
 | .cells _ own _=>own
 | .dead=>false
 | _=>true
structure HR (γ:Gm) (g:aG) (w:World):Prop where
 gT:∀ (k b o:Nat) (a:bf),g k=some a→γ.loc k=some (b,o)→BQ γ w.heap k b o a
 inj:∀ (k k' b o o':Nat) (a a':bf),g k=some a→a.own=true→g k'=some a'→a' ≠ .dead→k ≠ k'→γ.loc k=some (b,o)→γ.loc k'=some (b,o')→False
 lt:∀ (k b o:Nat),γ.loc k=some (b,o)→b < w.heap.size
 base:γ.B≤w.heap.size
 gl:∀ x ∈ GL,x.1 < γ.B∧HP (w.heap[x.1]?) x.2
theorem HR.RK {γ:Gm} {g:aG} {w:World} (h:HR γ g w) {k b o:Nat} {a:bf} (ha:g k=some a) (ho:a.own=true) (hl:γ.loc k=some (b,o)):γ.B≤b:=by
 have:=h.gT k b o a ha hl
 cases a with
 | cells cs own es=>obtain ⟨_,_,_,_,_,h3⟩:=this;exact (h3 ho).2.2.1
 | dead=>cases ho
 | map=>exact this.2.1
 | iter=>exact this.2.1
 | loop=>exact this.2.1
 | dQ=>exact this.2.1
theorem dM.mono {γ γ':Gm} (hle:γ.Le γ') {cs:List Value} {cs':Array Value} {o:Nat} (h:dM γ cs cs' o):dM γ' cs cs' o :=
 fun j v hv=>let ⟨v',a,b⟩:=h j v hv;⟨v',a,b.mono hle⟩
theorem jJ.mono {γ γ':Gm} (hle:γ.Le γ') {es:List MapEntry} {es':Array MapEntry} (h:jJ γ es es'):jJ γ' es es' :=
 ⟨h.1,fun i e e' a b=>let ⟨x,y,z⟩:=h.2 i e e' a b;⟨x.mono hle,y.mono hle,z⟩⟩
theorem x6.mono {γ γ':Gm} (hle:γ.Le γ') {fr:Tr Value} {tm:Array Value} (h:x6 γ fr tm):x6 γ' fr tm:=fun i=>(h i).mono hle
theorem BQ.mono {γ γ':Gm} (hle:γ.Le γ') {hp hp':Array Obj} {k b o:Nat} {a:bf} (hk:γ.loc k=some (b,o)) (hb:hp'[b]?=hp[b]?) (h:BQ γ hp k b o a):BQ γ' hp' k b o a:=by
 cases a with
 | cells cs own es =>obtain ⟨cs',e,fz,h1,h2,h3⟩:=h;exact ⟨cs',e,fz,hb.trans h1,h2.mono hle,fun ho=>by rw [hle.B,hle.cap k _ hk];exact h3 ho⟩
 | dead=>trivial
 | map es clock=>obtain ⟨h0,hB,es',h1,h2⟩:=h;exact ⟨h0,hle.B ▸ hB,es',hb.trans h1,h2.mono hle⟩
 | iter m since seen stepped=>obtain ⟨h0,hB,m',h1,h2⟩:=h;exact ⟨h0,hle.B ▸ hB,m',hle.loc _ _ h1,hb.trans h2⟩
 | loop st pend fr ps as bd =>obtain ⟨h0,hB,fn,tm,df',h1,h2,h4⟩:=h;exact ⟨h0,hle.B ▸ hB,fn,tm,df',hb.trans h1,h2.mono hle,h4⟩
 | dQ s pos=>exact ⟨h.1,hle.B ▸ h.2.1,hb.trans h.2.2⟩
structure j7 (γ:Gm) (g:aG) (w:World) (γ':Gm) (g':aG) (w':World):Prop where
 os:w'.os=w.os
 tape:w'.tape=w.tape
 output:w'.output=w.output
 size:w.heap.size≤w'.heap.size
 same:∀ b,b < w.heap.size→(∀ (k o:Nat) (a:bf),g k=some a→a.own=true→γ.loc k=some (b,o)→False)→w'.heap[b]?=w.heap[b]?
 uy:∀ (k b o:Nat) (a:bf),g' k=some a→a.own=true→γ'.loc k=some (b,o)→b < w.heap.size→∃ k0 o0 a0,g k0=some a0∧a0.own=true∧γ.loc k0=some (b,o0)
 live:∀ (k b o:Nat) (a:bf),g' k=some a→a ≠ .dead→γ'.loc k=some (b,o)→b < w.heap.size→∃ k0 o0 a0,g k0=some a0∧a0 ≠ .dead∧γ.loc k0=some (b,o0)
 s7:∀ (k b o:Nat),γ'.loc k=some (b,o)→b < w.heap.size→∃ k0 o0,γ.loc k0=some (b,o0)
theorem j7.refl (γ:Gm) (g:aG) (w:World):j7 γ g w γ g w:=⟨rfl,rfl,rfl,qq6 _,fun _ _ _=>rfl,fun k _ o a h1 h2 h3 _=>⟨k,o,a,h1,h2,h3⟩,fun k _ o a h1 h2 h3 _=>⟨k,o,a,h1,h2,h3⟩,fun k _ o h _=>⟨k,o,h⟩⟩
theorem j7.trans {γ γ1 γ2:Gm} {g g1 g2:aG} {w w1 w2:World} (h:j7 γ g w γ1 g1 w1) (k:j7 γ1 g1 w1 γ2 g2 w2):j7 γ g w γ2 g2 w2 where
 os:=k.os.trans h.os
 tape:=k.tape.trans h.tape
 output:=k.output.trans h.output
 size:=Nat.le_trans h.size k.size
 same:=fun b hb hn=>(k.same b (Nat.lt_of_lt_of_le hb h.size) fun i o a h1 h2 h3=>by
  obtain ⟨k0,o0,a0,q1,q2,q3⟩:=h.uy i b o a h1 h2 h3 hb
  exact hn k0 o0 a0 q1 q2 q3).trans (h.same b hb hn)
 uy:=fun i b o a h1 h2 h3 hb=>by obtain ⟨k0,o0,a0,q1,q2,q3⟩:=k.uy i b o a h1 h2 h3 (Nat.lt_of_lt_of_le hb h.size);exact h.uy k0 b o0 a0 q1 q2 q3 hb
 live:=fun i b o a h1 h2 h3 hb=>by obtain ⟨k0,o0,a0,q1,q2,q3⟩:=k.live i b o a h1 h2 h3 (Nat.lt_of_lt_of_le hb h.size);exact h.live k0 b o0 a0 q1 q2 q3 hb
 s7:=fun i b o hl hb=>by obtain ⟨k0,o0,q⟩:=k.s7 i b o hl (Nat.lt_of_lt_of_le hb h.size);exact h.s7 k0 b o0 q hb
def Gm.add (γ:Gm) (k b c:Nat):Gm:={γ with loc:=fun i=>if i=k then some (b,0) else γ.loc i,cap:=fun i=>if i=k then c else γ.cap i}
theorem Gm.mW {γ:Gm} {k b c:Nat} (h:γ.loc k=none):γ.Le (γ.add k b c):=by
 refine ⟨fun i x hx=>?_,fun i x hx=>?_,rfl⟩
 ·have:i ≠ k:=fun e=>by subst e;rw [h] at hx;cases hx
  simp [Gm.add,this,hx]
 ·have:i ≠ k:=fun e=>by subst e;rw [h] at hx;cases hx
  simp [Gm.add,this]
theorem Gm.cD (γ:Gm) (k b c:Nat):(γ.add k b c).loc k=some (b,0):=by simp [Gm.add]
theorem Gm.pg (γ:Gm) (k b c:Nat):(γ.add k b c).cap k=c:=by simp [Gm.add]
theorem Gm.bO (γ:Gm) {k i:Nat} (b c:Nat) (h:i ≠ k):(γ.add k b c).loc i=γ.loc i:=by simp [Gm.add,h]
theorem jD (g:aG) (k:Nat) (b:bf):iB g k b k=some b:=by simp [iB]
theorem gJ (g:aG) {k i:Nat} (b:bf) (h:i ≠ k):iB g k b i=g i:=by simp [iB,h]
theorem HR.new {γ:Gm} {g:aG} {w w':World} (h:HR γ g w) {n c:Nat} (hn:γ.loc n=none) {obj:Obj} (hh:w'.heap=w.heap.push obj) {a:bf}
  (ha:BQ (γ.add n w.heap.size c) w'.heap n w.heap.size 0 a):HR (γ.add n w.heap.size c) (iB g n a) w':=by
 have hle:=Gm.mW (b:=w.heap.size) (c:=c) hn;have hsz:w'.heap.size=w.heap.size+1:=by rw [hh];simp
 have hold:∀ b,b < w.heap.size→w'.heap[b]?=w.heap[b]?:=fun b hb=>by rw [hh,Array.getElem?_push,if_neg (by omega)]
 have hlt:∀ {i b o},i ≠ n→(γ.add n w.heap.size c).loc i=some (b,o)→b < w.heap.size:=fun hi hl=>h.lt _ _ _ (by rw [Gm.bO _ _ _ hi] at hl;exact hl);refine ⟨fun k b o x hx hl=>?_,fun k k' b o o' x x' hx ho hx' hd hne hl hl'=>?_,fun k b o hl=>?_,?_,fun x hx=>⟨(h.gl x hx).1,by rw [hold _ (Nat.lt_of_lt_of_le (h.gl x hx).1 h.base)];exact (h.gl x hx).2⟩⟩
 ·by_cases hk:k=n
  ·subst hk;rw [jD] at hx;cases hx;rw [Gm.cD] at hl;cases hl;exact ha
  ·rw [gJ _ _ hk] at hx;have hl0:=hl;rw [Gm.bO _ _ _ hk] at hl;exact (h.gT k b o x hx hl).mono hle hl (hold b (h.lt _ _ _ hl))
 ·by_cases hk:k=n
  ·subst hk;have hb:b=w.heap.size:=by rw [Gm.cD] at hl;cases hl;rfl
   have:=hlt (Ne.symm hne) hl';omega
  ·by_cases hk':k'=n
   ·subst hk';have hb:b=w.heap.size:=by rw [Gm.cD] at hl';cases hl';rfl
    have:=hlt hk hl;omega
   ·rw [gJ _ _ hk] at hx;rw [gJ _ _ hk'] at hx';rw [Gm.bO _ _ _ hk] at hl;rw [Gm.bO _ _ _ hk'] at hl';exact h.inj k k' b o o' x x' hx ho hx' hd hne hl hl'
 ·by_cases hk:k=n
  ·subst hk;rw [Gm.cD] at hl;cases hl;omega
  ·have:=hlt hk hl;omega
 ·show γ.B≤_;have:=h.base;omega
theorem j7.N6 {γ:Gm} {g g1:aG} {w w':World} {obj:Obj} {n c:Nat} {a:bf} (hg:∀ k a,g1 k=some a→a ≠ .dead→g k=some a) (hh:w'.heap=w.heap.push obj) (h1:w'.os=w.os) (h2:w'.tape=w.tape) (h3:w'.output=w.output) :
  j7 γ g w (γ.add n w.heap.size c) (iB g1 n a) w' :=
 ⟨h1,h2,h3,by rw [hh];simp,fun b hb _=>by rw [hh,Array.getElem?_push,if_neg (by omega)],fun k b o x hx ho hl hb=>by
  by_cases hk:k=n
  ·subst hk;rw [Gm.cD] at hl;cases hl;omega
  ·rw [gJ _ _ hk] at hx;rw [Gm.bO _ _ _ hk] at hl;exact ⟨k,o,x,hg k x hx (fun e=>by subst e;cases ho),ho,hl⟩,fun k b o x hx hd hl hb=>by
  by_cases hk:k=n
  ·subst hk;rw [Gm.cD] at hl;cases hl;omega
  ·rw [gJ _ _ hk] at hx;rw [Gm.bO _ _ _ hk] at hl;exact ⟨k,o,x,hg k x hx hd,hd,hl⟩,fun k b o hl hb=>by
  by_cases hk:k=n
  ·subst hk;rw [Gm.cD] at hl;cases hl;omega
  ·rw [Gm.bO _ _ _ hk] at hl;exact ⟨k,o,hl⟩⟩
theorem j7.new {γ:Gm} {g:aG} {w w':World} {obj:Obj} {n c:Nat} {a:bf} (hh:w'.heap=w.heap.push obj) (h1:w'.os=w.os) (h2:w'.tape=w.tape) (h3:w'.output=w.output) :
 j7 γ g w (γ.add n w.heap.size c) (iB g n a) w':=j7.N6 (fun _ _ h _=>h) hh h1 h2 h3
theorem HR.put {γ:Gm} {g:aG} {w w':World} (h:HR γ g w) {k b:Nat} {a0 a:bf} (h0:g k=some a0) (ho:a0.own=true) (hl:γ.loc k=some (b,0))
  (hsz:w'.heap.size=w.heap.size) (hh:∀ i,i ≠ b→w'.heap[i]?=w.heap[i]?) (_:a.own=true∨a=.dead) (ha:BQ γ w'.heap k b 0 a):HR γ (iB g k a) w':=by
 have hB:=h.RK h0 ho hl;refine ⟨fun i b' o x hx hl'=>?_,fun i i' b' o o' x x' hx hox hx' hd hne hli hli'=>?_,fun i b' o hl'=>?_,?_,fun x hx=>⟨(h.gl x hx).1,by rw [hh _ (by have:=(h.gl x hx).1;omega)];exact (h.gl x hx).2⟩⟩
 ·by_cases hi:i=k
  ·subst hi;rw [jD] at hx;cases hx;rw [hl] at hl';cases hl';exact ha
  ·rw [gJ _ _ hi] at hx;by_cases hd:x=.dead
   ·subst hd;trivial
   ·have hb:b' ≠ b:=fun e=>by subst e;exact h.inj k i b' 0 o a0 x h0 ho hx hd (Ne.symm hi) hl hl'
    exact (h.gT i b' o x hx hl').mono (Gm.Le.refl γ) hl' (hh b' hb)
 ·have key:∀ j y,iB g k a j=some y→y ≠ .dead→∃ y0,g j=some y0∧y0 ≠ .dead∧(y.own=true→y0.own=true):=by
   intro j y hy hyd;by_cases hj:j=k
   ·subst hj;rw [jD] at hy;cases hy;exact ⟨a0,h0,(fun (e:a0=.dead)=>by rw [e] at ho;cases ho),fun _=>ho⟩
   ·rw [gJ _ _ hj] at hy;exact ⟨y,hy,hyd,id⟩
  obtain ⟨y,hy,hyd,hyo⟩:=key i x hx (fun e=>by subst e;cases hox);obtain ⟨y',hy',hyd',_⟩:=key i' x' hx' hd;exact h.inj i i' b' o o' y y' hy (hyo hox) hy' hyd' hne hli hli'
 ·rw [hsz];exact h.lt i b' o hl'
 ·rw [hsz];exact h.base
theorem j7.put {γ:Gm} {g:aG} {w w':World} {k b:Nat} {a0 a:bf} (h0:g k=some a0) (ho:a0.own=true) (hl:γ.loc k=some (b,0))
  (h1:w'.os=w.os) (h2:w'.tape=w.tape) (h3:w'.output=w.output) (hsz:w'.heap.size=w.heap.size) (hh:∀ i,i ≠ b→w'.heap[i]?=w.heap[i]?):j7 γ g w γ (iB g k a) w' :=
 ⟨h1,h2,h3,by omega,fun i _ hi=>hh i fun e=>hi k 0 a0 h0 ho (e ▸ hl),fun i b' o x hx hox hli _=>by
  by_cases hi:i=k
  ·subst hi;exact ⟨i,o,a0,h0,ho,hli⟩
  ·rw [gJ _ _ hi] at hx;exact ⟨i,o,x,hx,hox,hli⟩,fun i b' o x hx hd hli _=>by
  by_cases hi:i=k
  ·subst hi;exact ⟨i,o,a0,h0,(fun e=>by subst e;cases ho),hli⟩
  ·rw [gJ _ _ hi] at hx;exact ⟨i,o,x,hx,hd,hli⟩,fun i _ o hli _=>⟨i,o,hli⟩⟩
theorem j7.move {γ:Gm} {g:aG} {w w':World} {k b n c:Nat} {a0 a:bf} (h0:g k=some a0) (ho:a0.own=true) (hl:γ.loc k=some (b,0))
  (h1:w'.os=w.os) (h2:w'.tape=w.tape) (h3:w'.output=w.output) (hsz:w'.heap.size=w.heap.size) (hh:∀ i,i ≠ b→w'.heap[i]?=w.heap[i]?):j7 γ g w (γ.add n b c) (iB (iB g k .dead) n a) w' :=
 ⟨h1,h2,h3,by omega,fun i _ hi=>hh i fun e=>hi k 0 a0 h0 ho (e ▸ hl),fun i b' o x hx hox hli _=>by
  by_cases hn:i=n
  ·subst hn;rw [Gm.cD] at hli;cases hli;exact ⟨k,0,a0,h0,ho,hl⟩
  ·rw [gJ _ _ hn] at hx;rw [Gm.bO _ _ _ hn] at hli;by_cases hi:i=k
   ·subst hi;rw [jD] at hx;cases hx;cases hox
   ·rw [gJ _ _ hi] at hx;exact ⟨i,o,x,hx,hox,hli⟩,fun i b' o x hx hd hli _=>by
  by_cases hn:i=n
  ·subst hn;rw [Gm.cD] at hli;cases hli;exact ⟨k,0,a0,h0,(fun e=>by subst e;cases ho),hl⟩
  ·rw [gJ _ _ hn] at hx;rw [Gm.bO _ _ _ hn] at hli;by_cases hi:i=k
   ·subst hi;rw [jD] at hx;cases hx;exact absurd rfl hd
   ·rw [gJ _ _ hi] at hx;exact ⟨i,o,x,hx,hd,hli⟩,fun i b' o hli _=>by
  by_cases hn:i=n
  ·subst hn;rw [Gm.cD] at hli;cases hli;exact ⟨k,0,hl⟩
  ·rw [Gm.bO _ _ _ hn] at hli;exact ⟨i,o,hli⟩⟩
theorem j7.heap {γ:Gm} {g:aG} {w w':World} (hh:w'.heap=w.heap) (h1:w'.os=w.os) (h2:w'.tape=w.tape) (h3:w'.output=w.output):j7 γ g w γ g w' :=
 ⟨h1,h2,h3,by rw [hh];exact qq6 _,fun _ _ _=>by rw [hh],fun k _ o a h1 h2 h3 _=>⟨k,o,a,h1,h2,h3⟩,fun k _ o a h1 h2 h3 _=>⟨k,o,a,h1,h2,h3⟩,fun k _ o h _=>⟨k,o,h⟩⟩
theorem HR.same {γ:Gm} {g:aG} {w w':World} (h:HR γ g w) (hh:w'.heap=w.heap):HR γ g w' :=
 ⟨fun k b o a ha hl=>by rw [hh];exact h.gT k b o a ha hl,h.inj,fun k b o hl=>by rw [hh];exact h.lt k b o hl,by rw [hh];exact h.base,by rw [hh];exact h.gl⟩
open Go.RowKit in
theorem j7.below {γ:Gm} {g:aG} {w w':World} {γ':Gm} {g':aG} (h:HR γ g w) (u:j7 γ g w γ' g' w'):Below γ.B w w':=by
 refine ⟨u.os,u.tape,u.output,u.size,fun b hb=>u.same b (Nat.lt_of_lt_of_le hb h.base) fun k o a ha ho hl=>?_⟩
 have hB:γ.B≤b:=by
  have:=h.gT k b o a ha hl
  cases a with
  | cells cs own es=>obtain ⟨_,_,_,_,_,h3⟩:=this;exact (h3 ho).2.2.1
  | dead=>cases ho
  | map=>exact this.2.1
  | iter=>exact this.2.1
  | loop=>exact this.2.1
  | dQ=>exact this.2.1
 omega
end Go.RM
namespace Go.RM
structure cE (T : bL) : Prop where
  ty : ∀ t r, T.ty.get t = some r → ∃ i, T.P.info? t = some i ∧ i.size = r.size ∧ i.bytes = r.bytes ∧ i.zero = r.zero ∧ T.P.underlying t = some r.und ∧
    (match r.und with
      | .struct fs => r.agg = true ∧ r.cJ.length = fs.size ∧ ∀ (j : Nat) (f : Field), fs[j]? = some f → ∃ i', T.P.info? f.type = some i' ∧ r.cJ[j]? = some (f.offset, i'.size)
      | .array _ e => r.agg = true ∧ ∃ i', T.P.info? e = some i' ∧ r.cS = i'.size
      | .slice e => r.agg = false ∧ ∃ i', T.P.info? e = some i' ∧ r.cS = i'.size
      | _ => r.agg = false)
  fn : ∀ f fn, T.fn.get f = some fn → T.P.funcs[f]? = some fn ∧ (fn.name == "runtime.NumGoroutine") = false ∧ ∀ c, fn.body = some c → codeOk fn.ntmps c = true
def cv.news:cv→Bool
 | .new _|.app ..=>true
 | _=>false
def aV (P:Program) (γ:Gm) (g:aG) (w:World) (n:Nat) (s:Sem Next) (v:Value) (e:cv):Prop :=
 ∃ v' w' γ',(s.run P w=.ok (.value v') w'∨(s.run P w=.ok .skip w'∧v'=undef))∧γ.Le γ'∧(∀ k,(k=n→e.news=false)→γ'.loc k=γ.loc k) ∧
  HR γ' (e.on n g) w'∧VR γ' v v'∧j7 γ g w γ' (e.on n g) w'
section
variable {T : bL} {γ : Gm} {g : aG} {w : World} {n : Nat}
theorem aV.pure {s:Sem Next} {v v':Value} (h:HR γ g w) (hs:s.run T.P w=.ok (.value v') w) (hv:VR γ v v'):aV T.P γ g w n s v .none :=
 ⟨v',w,γ,.inl hs,Gm.Le.refl γ,fun _ _=>rfl,h,hv,j7.refl γ g w⟩
theorem gm {α:Type} (P:Program) {s:Sem α}:∀ {a:α},aK P s=some a→∀ w,s.run P w=.ok a w:=by
 induction s with
 | pure a=>intro b h w;simp [aK] at h;subst h;rfl
 | program k ih=>intro b h w;simp only [aK] at h;exact ih P h w
 | mark m k ih=>intro b h w;simp only [aK] at h;exact ih h w
 | _=>intro b h;simp [aK] at h
theorem qB {o:Option Value} {v:Value} {e:cv} (h:cW o=some (v,e)):o=some v∧flat v=true∧e=.none:=by
 unfold cW at h
 cases o with
 | none=>cases h
 | some x =>
  simp only at h
  cases hf:flat x with
  | false=>rw [hf] at h;cases h
  | true=>rw [hf] at h;simp at h;obtain ⟨rfl,rfl⟩:=h;exact ⟨rfl,hf,rfl⟩
theorem aV.reckon {s:Sem Value} {v:Value} {e:cv} (h:HR γ g w) (hs:cW (aK T.P s)=some (v,e)):aV T.P γ g w n (do Pure.pure (Next.value (←s))) v e:=by obtain ⟨h1,h2,rfl⟩:=qB hs;refine .pure h ?_ (VR.of_flat h2);simp [gm T.P h1]
theorem aT {P:Program} {s:Sem Value} {v:Value} {w w':World} (h:s.run P w=.ok v w'):(do Pure.pure (Next.value (←s)):Sem Next).run P w=.ok (.value v) w':=by simp [h]
theorem rq {P:Program} {s:Sem Unit} {w w':World} (h:s.run P w=.ok () w'):(do s;Pure.pure Next.skip:Sem Next).run P w=.ok .skip w':=by simp [h]
theorem ru {P:Program} {t:TypeId} {i:TypeInfo} (h:P.info? t=some i) (w:World):(typeInfo t).run P w=.ok i w:=by unfold typeInfo;simp [program,Sem.run,h]
theorem dK {P:Program} {t:TypeId} {i:TypeInfo} (h:P.info? t=some i) (w:World):(sizeOf t).run P w=.ok i.size w:=by unfold sizeOf;simp [ru h]
theorem cq {P:Program} {t:TypeId} {d:TypeDesc} (h:P.underlying t=some d) (w:World):(underlying t).run P w=.ok d w:=run_underlying h w
theorem jE {P:Program} {t:TypeId} {i:TypeInfo} {z:Value} (h:P.info? t=some i) (hz:i.zero=some z) (w:World):(zeroValue t).run P w=.ok z w:=by unfold zeroValue;simp [ru h,hz]
def N7:TypeDesc→Bool
 | .struct _|.array _ _=>true
 | _=>false
theorem cE.agg (hT:cE T) {t:TypeId} {r:yR} (h:T.ty.get t=some r):r.agg=N7 r.und:=by obtain ⟨i,_,_,_,_,_,hm⟩:=hT.ty t r h;cases hu:r.und <;> rw [hu] at hm <;> first|exact hm.1|exact hm
theorem pq {P:Program} {t:TypeId} {d:TypeDesc} (h:P.underlying t=some d) (w:World):(isAgg t).run P w=.ok (N7 d) w:=by unfold isAgg;simp only [Sem.run_bind,cq h,Result.andThen_ok];cases d <;> rfl
theorem yU {v:Value} {k o:Nat} (h:addr? v=some (k,o)):v=.pointer (some ⟨k,o,none⟩):=by
 unfold addr? at h;split at h
 ·simp at h;obtain ⟨rfl,rfl⟩:=h;rfl
 ·cases h
theorem VR.addr {v v':Value} {k o:Nat} (h:VR γ v v') (ha:addr? v=some (k,o)):∃ b d,γ.loc k=some (b,d)∧v'=.pointer (some ⟨b,d+o,none⟩):=by
 obtain rfl:=yU ha
 cases h with
 | flat h=>simp [bh] at h
 | ptr h=>exact ⟨_,_,h,rfl⟩
theorem eT {a:Option bf} {cs:List Value} {own:Bool} {es:Nat} (h:cells? a=some (cs,own,es)):a=some (.cells cs own es):=by
 unfold cells? at h;split at h
 ·simp at h;obtain ⟨rfl,rfl,rfl⟩:=h;rfl
 ·cases h
theorem HR.cells (h:HR γ g w) {k b d:Nat} {cs:List Value} {own:Bool} {es:Nat} (hk:cells? (g k)=some (cs,own,es)) (hl:γ.loc k=some (b,d)) :
  ∃ cs' e fz,w.heap[b]?=some (.cells cs' e fz)∧dM γ cs cs' d∧(own=true→fz=(0,0)∧d=0∧γ.B≤b∧γ.cap k * es≤cs'.size) :=
 h.gT k b d _ (eT hk) hl
theorem rz {b i:Nat} {cs:Array Value} {e:TypeId} {fz:Nat × Nat} (h:w.heap[b]?=some (.cells cs e fz)):w.cell? ⟨b,i,none⟩=cs[i]?:=by simp [World.cell?,h]
theorem dM.HZ {cs:List Value} {cs':Array Value} {d o m:Nat} {c:List Value} (h:dM γ cs cs' d) (hc:cut cs o m=some c) :
  ∃ c':List Value,cy γ c c'∧c'.length=m∧(∀ (j:Nat) (v:Value),c'[j]?=some v→cs'[d+o+j]?=some v)∧c.length=m∧o+m≤cs.length:=by
 unfold cut at hc
 cases hb:Nat.ble (o+m) cs.length with
 | false=>rw [hb] at hc;cases hc
 | true =>
  rw [hb] at hc;simp at hc;have hle:o+m≤cs.length:=Nat.le_of_ble_eq_true hb;have hlen:c.length=m:=by rw [←hc];simp;omega
  have hat:∀ j,j < m→∃ v',cs'[d+(o+j)]?=some v'∧VR γ (c.getD j undef) v':=by
   intro j hj;have hb1:o+j < cs.length:=by omega
   have h1:cs[o+j]?=some (cs[o+j]'hb1):=List.getElem?_eq_getElem hb1;obtain ⟨v',a,b⟩:=h _ _ h1;refine ⟨v',a,?_⟩;have:c.getD j undef=cs[o+j]'hb1:=by clear hlen;rw [←hc,List.getD_eq_getElem?_getD,List.getElem?_take_of_lt hj,List.getElem?_drop,h1];rfl
   rw [this];exact b
  refine ⟨(List.range m).map fun j=>cs'.getD (d+(o+j)) undef,⟨by simp [hlen],fun i v v' hv hv'=>?_⟩,by simp,fun j v hv=>?_,hlen,hle⟩
  ·obtain ⟨hi,e⟩:=List.getElem?_eq_some_iff.1 hv;have hi':i < m:=by omega
   obtain ⟨x,h1,h2⟩:=hat i hi';rw [List.getElem?_map,List.getElem?_range hi'] at hv';simp [h1] at hv';rw [List.getD_eq_getElem?_getD,hv] at h2;rw [←hv'];exact h2
  ·have hj:j < m:=by have:=(List.getElem?_eq_some_iff.1 hv).1;simpa using this
   obtain ⟨x,h1,h2⟩:=hat j hj;rw [List.getElem?_map,List.getElem?_range hj] at hv;simp [h1] at hv;rw [←hv,Nat.add_assoc];exact h1
theorem DN (hT:cE T) (h:HR γ g w) {t:TypeId} {a a' v:Value} {e:cv} (ho:eV T t a g=some (v,e)) (ha:VR γ a a') :
  aV T.P γ g w n (do Pure.pure (Next.value (←Instr.loadAt t a'))) v e:=by
 unfold eV at ho
 cases hk:addr? a with
 | none=>rw [hk] at ho;cases ho
 | some ko =>
  obtain ⟨k,o⟩:=ko;rw [hk] at ho;simp only at ho
  cases hc:cells? (g k) with
  | none=>rw [hc] at ho;cases ho
  | some c0 =>
   obtain ⟨cs,own,es⟩:=c0
   cases hty:T.ty.get t with
   | none=>rw [hc,hty] at ho;cases ho
   | some r =>
    obtain ⟨i,hi,hsz,_,_,hu,_⟩:=hT.ty t r hty;have hag:=hT.agg hty;obtain ⟨und,s,bytes,zero,agg,cJ,cS⟩:=r;rw [hc,hty] at ho;simp only at ho hsz hu hag;obtain ⟨b,d,hl,rfl⟩:=ha.addr hk;obtain ⟨cs',el,fz,hw,hcr,_⟩:=h.cells hc hl
    cases agg with
    | true =>simp only [cond_true,Option.map_eq_some_iff,Prod.mk.injEq] at ho;obtain ⟨c,hcut,rfl,rfl⟩:=ho;obtain ⟨c',hv,hlen,hat,_,_⟩:=hcr.HZ hcut;refine .pure h (aT (v:=.agg c'.toArray) ?_) (VR.kD hv);have hload:=run_loadCells_list (P:=T.P) w ⟨b,d+o,none⟩ c' (fun j v hj=>by rw [Addr.add_lit,rz hw];exact hat j v hj);rw [hlen,←hsz] at hload;simp [Instr.loadAt,Instr.sureAddr,loadVar,pq hu,←hag,dK hi,hload]
    | false =>simp only [cond_false,Option.map_eq_some_iff,Prod.mk.injEq] at ho;obtain ⟨x,hx,rfl,rfl⟩:=ho;obtain ⟨x',h1,h2⟩:=hcr o x hx;refine .pure h (aT (v:=x') ?_) h2;simp [Instr.loadAt,Instr.sureAddr,loadVar,pq hu,←hag,load,Sem.run,rz hw,h1]
end
theorem getElem?_splice (cs vs:List Value) (o j:Nat) (h:o+vs.length≤cs.length) :
  (splice cs vs o)[j]?=if j < o then cs[j]? else if j < o+vs.length then vs[j - o]? else cs[j]?:=by
 unfold splice;rw [List.append_assoc];by_cases h1:j < o
 ·rw [if_pos h1,List.getElem?_append_left (by simp;omega),List.getElem?_take_of_lt h1]
 ·rw [if_neg h1,List.getElem?_append_right (by simp;omega)];have hl:(cs.take o).length=o:=by simp;omega
  rw [hl];by_cases h2:j < o+vs.length
  ·rw [if_pos h2,List.getElem?_append_left (by omega)]
  ·rw [if_neg h2,List.getElem?_append_right (by omega),List.getElem?_drop]
   congr 1;omega
theorem gN (cs vs:List Value) (o:Nat) (h:o+vs.length≤cs.length):(splice cs vs o).length=cs.length:=by unfold splice;simp;omega
theorem dM.splice {γ:Gm} {cs:List Value} {cs':Array Value} {vs vs':List Value} {o:Nat} (h:dM γ cs cs' 0) (k:cy γ vs vs') (ho:o+vs.length≤cs.length) (ho':o+vs'.length≤cs'.size) :
  dM γ (RM.splice cs vs o) (RM.splice cs'.toList vs' o).toArray 0:=by
 intro j v hv;rw [Nat.zero_add,List.getElem?_toArray];rw [getElem?_splice _ _ _ _ ho] at hv;rw [getElem?_splice _ _ _ _ (by simpa using ho'),←k.1];have old:∀ {x},cs[j]?=some x→∃ v',cs'.toList[j]?=some v'∧VR γ x v':=fun hx=>by obtain ⟨v',a,b⟩:=h j _ hx;exact ⟨v',by simpa using a,b⟩
 by_cases h1:j < o
 ·rw [if_pos h1] at hv ⊢;exact old hv
 ·rw [if_neg h1] at hv ⊢;by_cases h2:j < o+vs.length
  ·rw [if_pos h2] at hv ⊢;exact k.get hv
  ·rw [if_neg h2] at hv ⊢;exact old hv
theorem dM.size_le {γ:Gm} {cs:List Value} {cs':Array Value} {d:Nat} (h:dM γ cs cs' d) (hn:cs ≠ []):d+cs.length≤cs'.size:=by have hpos:0 < cs.length:=List.length_pos_iff.2 hn;obtain ⟨v',a,_⟩:=h (cs.length - 1) _ (List.getElem?_eq_getElem (by omega));have:=(Array.getElem?_eq_some_iff.1 a).1;omega
section
variable {T : bL} {γ : Gm} {g : aG} {w : World} {n : Nat}
theorem setRow_os (w:World) (b:Nat) (cs:Array Value):(w.setRow b cs).os=w.os∧(w.setRow b cs).tape=w.tape∧(w.setRow b cs).output=w.output∧(w.setRow b cs).heap.size=w.heap.size:=by refine ⟨rfl,rfl,rfl,?_⟩;simp [World.setRow]
theorem BS {a b c d:Bool} (h:(a && b && c && d)=true):a=true∧b=true∧c=true∧d=true:=by simp only [qq7] at h;exact ⟨h.1.1.1,h.1.1.2,h.1.2,h.2⟩
theorem BT (hT:cE T) (h:HR γ g w) {t:TypeId} {a a' x x' v:Value} {e:cv} (ho:eB T t a x g=some (v,e)) (ha:VR γ a a') (hx:VR γ x x') :
  aV T.P γ g w n (do Instr.storeAt t a' x';Pure.pure Next.skip) v e:=by
 unfold eB at ho
 cases hk:addr? a with
 | none=>rw [hk] at ho;cases ho
 | some ko =>
  obtain ⟨k,o⟩:=ko;rw [hk] at ho;simp only at ho
  cases hc:cells? (g k) with
  | none=>rw [hc] at ho;cases ho
  | some c0 =>
   obtain ⟨cs,own,es⟩:=c0
   cases hty:T.ty.get t with
   | none=>rw [hc,hty] at ho;cases ho
   | some r =>
    obtain ⟨i,hi,hsz,_,_,hu,_⟩:=hT.ty t r hty;obtain ⟨und,s,bytes,zero,agg,cJ,cS⟩:=r;rw [hc,hty] at ho;simp only at ho hsz hu;obtain ⟨b,d,hl,rfl⟩:=ha.addr hk;obtain ⟨cs',el,fz,hw,hcr,hown⟩:=h.cells hc hl
    cases hcond:(own && Nat.beq x.cells.toList.length s && Nat.ble (o+s) cs.length && x.cells.toList.all bH) with
    | false=>rw [hcond] at ho;cases ho
    | true =>
     rw [hcond] at ho;simp only [cond_true,qq9,Prod.mk.injEq] at ho;obtain ⟨rfl,rfl⟩:=ho;obtain ⟨h1,h2,h3,h4⟩:=BS hcond;subst h1;have h2':=Nat.eq_of_beq_eq_true h2;have h3':=Nat.le_of_ble_eq_true h3;obtain ⟨rfl,rfl,hB,hcap⟩:=hown rfl;have hvr:=hx.cells;have hsz':x'.cells.toList.length=s:=by rw [←hvr.1];exact h2'
     have hroom:o+x'.cells.toList.length≤cs'.size:=by
      rw [hsz'];by_cases hn:cs=[]
      ·subst hn;simp at h3';omega
      ·have:=hcr.size_le hn;omega
     have hst:=run_storeCells_at T.P b (0+o) el x'.cells.toList 0 cs' w hw (by omega) (hvr.bH h4);refine ⟨undef,_,γ,.inr ⟨rq (w':=w.setRow b (splice cs'.toList x'.cells.toList o).toArray) ?_,rfl⟩,Gm.Le.refl γ,fun _ _=>rfl,?_,VR.undef γ,?_⟩
     ·have e1:¬ (x'.cells.size ≠ i.size):=by rw [hsz];simpa using hsz'
      simp only [Nat.add_zero,Nat.zero_add] at hst;simp [Instr.storeAt,Instr.sureAddr,storeVar,dK hi,e1,hst,splice]
     ·obtain ⟨o1,o2,o3,o4⟩:=setRow_os w b (splice cs'.toList x'.cells.toList o).toArray;refine h.put (eT hc) rfl hl o4 (fun j hj=>setRow_other w b j _ hj) (.inl rfl) ?_;refine ⟨_,el,(0,0),setRow_heap w b cs' _ el _ hw,hcr.splice hvr (by rw [h2'];exact h3') hroom,fun _=>⟨rfl,rfl,hB,?_⟩⟩;rw [List.size_toArray,gN _ _ _ (by simpa using hroom)];simpa using hcap
     ·obtain ⟨o1,o2,o3,o4⟩:=setRow_os w b (splice cs'.toList x'.cells.toList o).toArray;exact j7.put (eT hc) rfl hl o1 o2 o3 o4 (fun j hj=>setRow_other w b j _ hj)
theorem aV.rA (h:HR γ g w) (hn:γ.loc n=none) {s:Sem Next} {cs:List Value} {es c:Nat} {el:TypeId} {cs':Array Value} {v v':Value} {w':World}
  (hs:s.run T.P w=.ok (.value v') w') (hh:w'.heap=w.heap.push (.cells cs' el)) (h1:w'.os=w.os) (h2:w'.tape=w.tape) (h3:w'.output=w.output)
  (hc:dM γ cs cs' 0) (hcap:c * es≤cs'.size) (hv:VR (γ.add n w.heap.size c) v v'):aV T.P γ g w n s v (.new (.cells cs true es)):=by
 have hle:=Gm.mW (b:=w.heap.size) (c:=c) hn;refine ⟨v',w',γ.add n w.heap.size c,.inl hs,hle,fun k hk=>Gm.bO _ _ _ (fun e=>Bool.noConfusion (hk e:true=false)),?_,hv,j7.new hh h1 h2 h3⟩;refine h.new hn hh ?_;refine ⟨cs',el,(0,0),by rw [hh];simp,hc.mono hle,fun _=>⟨rfl,rfl,h.base,by rw [Gm.pg];exact hcap⟩⟩
theorem dM.Aa {cs cs':List Value} (h:cy γ cs cs'):dM γ cs cs'.toArray 0:=fun j v hv=>by obtain ⟨v',a,b⟩:=h.get hv;exact ⟨v',by simpa using a,b⟩
theorem GC (h:HR γ g w) {t:TypeId} {x x' v:Value} {e:cv} (hn:e.news=true→γ.loc n=none) (ho:Gw n x=some (v,e)) (hx:VR γ x x') :
  aV T.P γ g w n (do Pure.pure (Next.value (←Instr.box t x'))) v e:=by
 unfold Gw at ho
 cases hc:x.cells.toList.all bH with
 | false=>rw [hc] at ho;cases ho
 | true =>
  rw [hc] at ho;simp only [cond_true,qq9,Prod.mk.injEq] at ho;obtain ⟨rfl,rfl⟩:=ho;refine aV.rA (el:=t) (cs':=x'.cells) (c:=0) h (hn rfl) (aT (v:=.pointer (some ⟨w.heap.size,0,none⟩)) (w':=w.alloc (.cells x'.cells t)) ?_) rfl rfl rfl rfl ?_ (by simp) ?_
  ·simp [Instr.box,newVar,newRow]
  ·have:=dM.Aa hx.cells;simpa using this
  ·exact VR.ptr (o:=0) (Gm.cD _ _ _ _)
theorem BU (hT:cE T) (h:HR γ g w) {t:TypeId} {v:Value} {e:cv} (hn:e.news=true→γ.loc n=none) (ho:sW T n t=some (v,e)) :
  aV T.P γ g w n (do Pure.pure (Next.value (←Instr.alloc t true (.tuple #[])))) v e:=by
 unfold sW at ho
 cases hty:T.ty.get t with
 | none=>rw [hty] at ho;cases ho
 | some r =>
  obtain ⟨i,hi,_,_,hz,_,_⟩:=hT.ty t r hty;obtain ⟨und,s,bytes,zero,agg,cJ,cS⟩:=r;rw [hty] at ho
  cases zero with
  | none=>cases ho
  | some z =>
   simp only at ho hz
   cases hc:z.cells.toList.all bh with
   | false=>rw [hc] at ho;cases ho
   | true =>
    rw [hc] at ho;simp only [cond_true,qq9,Prod.mk.injEq] at ho;obtain ⟨rfl,rfl⟩:=ho;refine aV.rA (el:=t) (cs':=z.cells) (c:=0) h (hn rfl) (aT (v:=.pointer (some ⟨w.heap.size,0,none⟩)) (w':=w.alloc (.cells z.cells t)) ?_) rfl rfl rfl rfl ?_ (by simp) ?_
    ·simp [Instr.alloc,jE hi hz,newVar,newRow]
    ·have:=dM.Aa (cy.of_flat (γ:=γ) hc);simpa using this
    ·exact VR.ptr (o:=0) (Gm.cD _ _ _ _)
theorem uU (hT:cE T) (h:HR γ g w) {t:TypeId} {a a' v:Value} {i:Nat} {e:cv} (ho:dV T t a i=some (v,e)) (ha:VR γ a a') :
  aV T.P γ g w n (do Pure.pure (Next.value (←Instr.fieldAt t a' i))) v e:=by
 unfold dV at ho
 cases hk:addr? a with
 | none=>rw [hk] at ho;simp at ho
 | some ko =>
  obtain ⟨k,o⟩:=ko
  cases hty:T.ty.get t with
  | none=>rw [hk,hty] at ho;cases ho
  | some r =>
   obtain ⟨inf,hi,_,_,_,hu,hm⟩:=hT.ty t r hty;obtain ⟨und,s,bytes,zero,agg,cJ,cS⟩:=r;rw [hk,hty] at ho
   cases und with
   | struct fs =>
    simp only at ho hm hu;obtain ⟨_,hlen,hf⟩:=hm
    cases hfi:cJ[i]? with
    | none=>rw [hfi] at ho;cases ho
    | some p =>
     obtain ⟨off,sz⟩:=p;rw [hfi] at ho;simp only at ho
     cases hb:Nat.ble 1 sz with
     | false=>rw [hb] at ho;cases ho
     | true =>
      rw [hb] at ho;simp only [cond_true,qq9,Prod.mk.injEq] at ho;obtain ⟨rfl,rfl⟩:=ho;have hil:i < fs.size:=by rw [←hlen];exact (List.getElem?_eq_some_iff.1 hfi).1
      obtain ⟨i',hi',hfl⟩:=hf i fs[i] (Array.getElem?_eq_getElem hil);rw [hfi] at hfl;simp only [qq9,Prod.mk.injEq] at hfl;obtain ⟨e1,e2⟩:=hfl;obtain ⟨b,d,hl,rfl⟩:=ha.addr hk;have hne:¬ (i'.size=0):=by rw [←e2];have:=Nat.le_of_ble_eq_true hb;omega
      refine .pure h (aT (v:=.pointer (some ⟨b,d+o+off,none⟩)) ?_) (by rw [Nat.add_assoc];exact VR.ptr hl);simp [Instr.fieldAt,cq hu,hil,Instr.sureAddr,fieldPlace,dK hi',hne,Addr.add_lit,e1]
   | _=>simp at ho
theorem ble_eq (a b:Nat):Nat.ble a b=decide (a≤b):=by
 cases h:Nat.ble a b
 ·exact (decide_eq_false (fun e=>by rw [Nat.ble_eq_true_of_le e] at h;cases h)).symm
 ·exact (decide_eq_true (Nat.le_of_ble_eq_true h)).symm
theorem mX (a b:Int):HQ a b=decide (a≤b):=by
 cases a with
 | ofNat a=>cases b with
  | ofNat b=>show Nat.ble a b=_;rw [ble_eq];exact decide_eq_decide.2 (by simp)
  | negSucc b=>exact (decide_eq_false (by simp;omega)).symm
 | negSucc a=>cases b with
  | ofNat b=>exact (decide_eq_true (by simp;omega)).symm
  | negSucc b=>show Nat.ble b a=_;rw [ble_eq];exact decide_eq_decide.2 (by rw [Int.negSucc_eq,Int.negSucc_eq];omega)
theorem ox (a b:Int):Gx a b=decide (a < b):=by unfold Gx;rw [mX,←decide_not];exact decide_eq_decide.2 (by omega)
theorem H6 (a b:Int):Fu a b=decide (a=b):=by cases a <;> cases b <;> simp [Fu,Tr.beq_eq] <;> omega
theorem GD {c:Int} (h:yS c=true):-9223372036854775808≤c∧c≤9223372036854775807:=by unfold yS at h;rw [mX,mX] at h;simp at h;omega
theorem vG {v:Value} {j:Int} (h:intOf? v=some j):∃ k,v=.int k j:=by
 unfold intOf? at h;split at h
 ·simp at h;subst h;exact ⟨_,rfl⟩
 ·cases h
theorem yV {cS k o len:Nat} {j:Int} {v:Value} {e:cv} (h:qa cS k o len j=some (v,e)):0≤j∧j < len∧v=ptr k (o+j.toNat * cS)∧e=.none:=by
 unfold qa at h
 cases hc:(HQ 0 j && Gx j (.ofNat len)) with
 | false=>rw [hc] at h;cases h
 | true =>rw [hc] at h;simp only [cond_true,qq9,Prod.mk.injEq] at h;rw [mX,ox] at hc;simp at hc;exact ⟨hc.1,hc.2,h.1.symm,h.2.symm⟩
theorem uV (hT:cE T) (h:HR γ g w) {t:TypeId} {a a' ix ix' v:Value} {e:cv} (ho:dW T t a ix=some (v,e)) (ha:VR γ a a') (hix:VR γ ix ix') :
  aV T.P γ g w n (do Pure.pure (Next.value (←Instr.indexAt t a' ix'))) v e:=by
 unfold dW at ho
 cases hj:intOf? ix with
 | none=>rw [hj] at ho;simp at ho
 | some j =>
  obtain ⟨kk,rfl⟩:=vG hj;obtain rfl:=hix.bN rfl
  cases hty:T.ty.get t with
  | none=>rw [hj,hty] at ho;cases ho
  | some r =>
   obtain ⟨inf,hi,_,_,_,hu,hm⟩:=hT.ty t r hty;obtain ⟨und,s,bytes,zero,agg,cJ,cS⟩:=r;rw [hj,hty] at ho
   cases und with
   | array len el =>
    simp only at ho hm hu;obtain ⟨_,i',hi',he⟩:=hm
    cases hk:addr? a with
    | none=>rw [hk] at ho;cases ho
    | some ko =>obtain ⟨k,o⟩:=ko;rw [hk] at ho;obtain ⟨h0,hlt,rfl,rfl⟩:=yV ho;obtain ⟨b,d,hl,rfl⟩:=ha.addr hk;refine .pure h (aT (v:=.pointer (some ⟨b,d+o+j.toNat * cS,none⟩)) ?_) (by rw [Nat.add_assoc];exact VR.ptr hl);simp [Instr.indexAt,asIntOf,cq hu,Instr.sureAddr,h0,hlt,dK hi',←he,Addr.add_lit]
   | slice el =>
    simp only at ho hm hu;obtain ⟨_,i',hi',he⟩:=hm;split at ho
    ·rename_i k o len cp;obtain ⟨h0,hlt,rfl,rfl⟩:=yV ho
     cases ha with
     | flat h=>simp [bh] at h
     | slice hl =>rename_i b d c' _ _ _ _;refine .pure h (aT (v:=.pointer (some ⟨b,d+o+j.toNat * cS,none⟩)) ?_) (by rw [Nat.add_assoc];exact VR.ptr hl);simp [Instr.indexAt,asIntOf,cq hu,h0,hlt,dK hi',←he,Addr.add_lit]
     | dc=>omega
    ·cases ho
   | _=>simp at ho
theorem x8 (h:HR γ g w) {x x' v:Value} {i:Nat} {e:cv} (ho:gi x i=some (v,e)) (hx:VR γ x x') :
  aV T.P γ g w n (do Pure.pure (Next.value (←Instr.extract x' i))) v e:=by
 unfold gi at ho;split at ho
 ·rename_i vs;simp only [Option.map_eq_some_iff,Prod.mk.injEq] at ho;obtain ⟨y,hy,rfl,rfl⟩:=ho
  cases hx with
  | flat h=>simp [bh] at h
  | tuple h1 hc =>
   rename_i vs';obtain ⟨y',a,b⟩:=(cy.mV h1 hc).get hy;refine .pure h (aT (v:=y') ?_) b;have:vs'[i]?=some y':=by simpa using a
   simp [Instr.extract,this]
 ·cases ho
theorem DO (h:HR γ g w) {c c' a a' b b' v:Value} {e:cv} (ho:uw c a b=some (v,e)) (hc:VR γ c c') (ha:VR γ a a') (hb:VR γ b b') :
  aV T.P γ g w n (do Pure.pure (Next.value (if ←asBool c' then a' else b'))) v e:=by
 unfold uw at ho;split at ho
 ·rename_i t;simp only [qq9,Prod.mk.injEq] at ho;obtain ⟨rfl,rfl⟩:=ho;obtain rfl:=hc.bN rfl
  cases t with
  | true=>exact .pure h (by simp [asBool]) ha
  | false=>exact .pure h (by simp [asBool]) hb
 ·cases ho
theorem vH (h:HR γ g w) {fn:Fn} {fs fs' cs cs':List Value} {v:Value} {e:cv} (ho:mo fn fs cs=some (v,e)) (hf:cy γ fs fs') (hc:cy γ cs cs') :
  aV T.P γ g w n (do Pure.pure (Next.value (←Instr.makeFunc fn fs'.toArray cs'.toArray))) v e:=by
 unfold mo at ho;split at ho
 ·simp only [qq9,Prod.mk.injEq] at ho;obtain ⟨rfl,rfl⟩:=ho;have a:=cy.arr (cs:=fs.toArray) (cs':=fs'.toArray) (by simpa using hf);have b:=cy.arr (cs:=cs.toArray) (cs':=cs'.toArray) (by simpa using hc);exact .pure h (by simp [Instr.makeFunc]) (.func a.1 b.1 a.2 b.2)
 ·cases ho
end
open Go.RowKit
section
variable {T : bL} {γ : Gm} {g : aG} {w : World} {n : Nat}
theorem rB (h:HR γ g w) {o:BinOp} {t:TypeId} {x y:Operand} {a a' b b' v:Value} {e:cv} (ho:fS T.P o t x y a b=some (v,e)) (ha:VR γ a a') (hb:VR γ b b') :
  aV T.P γ g w n (do Pure.pure (Next.value (←(do eqGuard o t x y a' b';binOp o t a' b')))) v e:=by
 unfold fS at ho
 cases hf:(flat a && flat b) with
 | false=>rw [hf] at ho;cases ho
 | true =>rw [hf] at ho;simp only [qq7] at hf;rw [ha.cU hf.1,hb.cU hf.2];exact aV.reckon h ho
theorem BV {P:Program} {o:BinOp} {m k:Int} {v:Value} (h:jU o m k=some v) (t:TypeId) (x y:Operand) (w:World) :
  flat v=true∧(do eqGuard o t x y (.int .i64 m) (.int .i64 k);binOp o t (.int .i64 m) (.int .i64 k):Sem Value).run P w=.ok v w:=by
 have wrapped:∀ {c:Int} {v:Value},oe c=some v→v=.int .i64 c∧IntKind.i64.wrap c=c:=fun {c v} hw=>by
  unfold oe at hw
  cases hc:yS c with
  | false=>rw [hc] at hw;cases hw
  | true=>rw [hc] at hw;simp at hw;exact ⟨hw.symm,IntWalk.i64_in c (GD hc)⟩
 cases o <;> simp only [jU] at h <;> first
  | (obtain ⟨rfl,e⟩:=wrapped h;exact ⟨rfl,by simp [eqGuard,binOp,Op.intArith];exact e⟩)
  | (cases h;refine ⟨rfl,?_⟩;simp [eqGuard,binOp,Op.intCmp,mX,ox,H6,bne,BEq.beq])
  | cases h
theorem Ab {P:Program} {o:BinOp} {t:TypeId} {x y:Operand} {ad:Addr} {n c:Nat} {v:Value} {e:cv} (ht:mj P t=true) (ho:jA o=some (v,e)) (w:World) :
  e=.none∧flat v=true∧(do eqGuard o t x y (.slice (some ad) n c) (.slice none 0 0);binOp o t (.slice (some ad) n c) (.slice none 0 0):Sem Value).run P w=.ok v w:=by
 unfold mj at ht;split at ht
 ·rename_i el hu;have hun:=gm P hu w;have hq0:∀ d,(Op.equalIn (d+1) t (.slice (some ad) n c) (.slice none 0 0)).run P w=.ok false w:=fun d=>by simp [Op.equalIn,hun]
  have hq:(Op.equalIn Op.maxDepth t (.slice (some ad) n c) (.slice none 0 0)).run P w=.ok false w:=hq0 9999
  cases o <;> simp only [jA,qq9,Prod.mk.injEq] at ho <;> first
   | (obtain ⟨rfl,rfl⟩:=ho;refine ⟨rfl,rfl,?_⟩;simp [eqGuard,binOp,Op.equal,hq])
   | cases ho
 ·cases ht
theorem DP {P:Program} {o:BinOp} {t:TypeId} {x y:Operand} {ad:Addr} {v:Value} {e:cv} (ht:qA P t=true) (ho:jA o=some (v,e)) (w:World) :
  e=.none∧flat v=true∧(do eqGuard o t x y (.pointer (some ad)) (.pointer none);binOp o t (.pointer (some ad)) (.pointer none):Sem Value).run P w=.ok v w:=by
 unfold qA at ht;split at ht
 ·rename_i el hu;have hun:=gm P hu w;have hq0:∀ d,(Op.equalIn (d+1) t (.pointer (some ad)) (.pointer none)).run P w=.ok false w:=fun d=>by simp [Op.equalIn,hun]
  have hq:(Op.equalIn Op.maxDepth t (.pointer (some ad)) (.pointer none)).run P w=.ok false w:=hq0 9999
  cases o <;> simp only [jA,qq9,Prod.mk.injEq] at ho <;> first
   | (obtain ⟨rfl,rfl⟩:=ho;refine ⟨rfl,rfl,?_⟩;simp [eqGuard,binOp,Op.equal,hq])
   | cases ho
 ·cases ht
theorem GF (h:HR γ g w) {o:BinOp} {t:TypeId} {x y:Operand} {a a' b b' v:Value} {e:cv} (ho:eA T.P o t x y a b=some (v,e)) (ha:VR γ a a') (hb:VR γ b b') :
  aV T.P γ g w n (do Pure.pure (Next.value (←(do eqGuard o t x y a' b';binOp o t a' b')))) v e:=by
 unfold eA at ho;split at ho
 ·rename_i m k
  cases hf:jU o m k with
  | none=>rw [hf] at ho;exact rB h ho ha hb
  | some u =>rw [hf] at ho;simp only [qq9,Prod.mk.injEq] at ho;obtain ⟨rfl,rfl⟩:=ho;obtain rfl:=ha.bN rfl;obtain rfl:=hb.bN rfl;obtain ⟨h1,h2⟩:=BV (P:=T.P) hf t x y w;exact .pure h (aT h2) (VR.of_flat h1)
 ·rename_i ad n c;obtain rfl:=hb.bN rfl
  cases ht:mj T.P t with
  | false=>rw [ht] at ho;cases ho
  | true =>
   rw [ht] at ho;simp only [cond_true] at ho
   obtain ⟨a2,c2,rfl⟩:∃ a2 c2,a'=.slice (some a2) n c2:=by
    cases ha with
    | flat hf=>simp [bh] at hf
    | slice=>exact ⟨_,_,rfl⟩
    | dc=>exact ⟨_,_,rfl⟩
   obtain ⟨rfl,h1,h2⟩:=Ab (x:=x) (y:=y) (ad:=a2) (n:=n) (c:=c2) ht ho w;exact .pure h (aT h2) (VR.of_flat h1)
 ·rename_i ad;obtain rfl:=hb.bN rfl
  cases ht:qA T.P t with
  | false=>rw [ht] at ho;cases ho
  | true =>
   rw [ht] at ho;simp only [cond_true] at ho
   obtain ⟨a2,rfl⟩:∃ a2,a'=.pointer (some a2):=by
    cases ha with
    | flat hf=>simp [bh] at hf
    | ptr=>exact ⟨_,rfl⟩
   obtain ⟨rfl,h1,h2⟩:=DP (x:=x) (y:=y) (ad:=a2) ht ho w;exact .pure h (aT h2) (VR.of_flat h1)
 ·exact rB h ho ha hb
theorem oy {γ:Gm}:∀ {l l':List Value},cy γ l l'→l.all flat=true→l'=l
 | [],[],_,_=>rfl
 | [],_ :: _,h,_=>by simp [cy] at h
 | _ :: _,[],h,_=>by simp [cy] at h
 | v :: l,v' :: l',h,hf=>by simp only [List.all_cons,qq7] at hf;have h1:=VR.cU (h.2 0 v v' rfl rfl) hf.1;have h2:cy γ l l':=⟨by simpa using h.1,fun i a a' x y=>h.2 (i+1) a a' (by simpa using x) (by simpa using y)⟩;rw [h1,oy h2 hf.2]
theorem GG (h:HR γ g w) {l l':List Value} {tys:Array TypeId} {ty:TypeId} {v:Value} {e:cv} (ho:zY T.P l=some (v,e)) (hl:cy γ l l') :
  aV T.P γ g w n (do Pure.pure (Next.value (←Builtin.min_ tys ty l'.toArray))) v e:=by
 unfold zY at ho;split at ho
 ·rename_i x y;simp only [qq9,Prod.mk.injEq] at ho;obtain ⟨rfl,rfl⟩:=ho;obtain rfl:=oy hl rfl;refine .pure h (aT (v:=.int .i64 (if y < x then y else x)) ?_) ?_
  ·simp [Builtin.min_,Builtin.min2]
  ·rw [ox];by_cases hxy:y < x <;> simp [hxy] <;> exact .flat rfl
 ·cases hf:l.all flat with
  | false=>rw [hf] at ho;cases ho
  | true =>rw [hf] at ho;obtain rfl:=oy hl hf;exact aV.reckon h ho
theorem GH (h:HR γ g w) {l l':List Value} {tys:Array TypeId} {ty:TypeId} {v:Value} {e:cv} (ho:zZ T.P l=some (v,e)) (hl:cy γ l l') :
  aV T.P γ g w n (do Pure.pure (Next.value (←Builtin.max_ tys ty l'.toArray))) v e:=by
 unfold zZ at ho;split at ho
 ·rename_i x y;simp only [qq9,Prod.mk.injEq] at ho;obtain ⟨rfl,rfl⟩:=ho;obtain rfl:=oy hl rfl;refine .pure h (aT (v:=.int .i64 (if y > x then y else x)) ?_) ?_
  ·simp [Builtin.max_,Builtin.max2]
  ·rw [ox];by_cases hxy:x < y <;> simp [hxy] <;> exact .flat rfl
 ·cases hf:l.all flat with
  | false=>rw [hf] at ho;cases ho
  | true =>rw [hf] at ho;obtain rfl:=oy hl hf;exact aV.reckon h ho
theorem vI {x v:Value} {e:cv} (ho:jc x=some (v,e)):∃ a,x=.pointer (some a)∧v=.pointer (some a)∧e=.none:=by
 unfold jc at ho;split at ho
 ·simp only [qq9,Prod.mk.injEq] at ho;exact ⟨_,rfl,ho.1.symm,ho.2.symm⟩
 ·cases ho
def jK (γ:Gm) (l l':List (Nat × Value)):Prop:=l.length=l'.length∧∀ (i:Nat) (p p':Nat × Value),l[i]?=some p→l'[i]?=some p'→p.1=p'.1∧VR γ p.2 p'.2
theorem jK.tail {γ:Gm} {p p':Nat × Value} {l l':List (Nat × Value)} (h:jK γ (p :: l) (p' :: l')):jK γ l l' :=
 ⟨by simpa using h.1,fun i a a' x y=>h.2 (i+1) a a' (by simpa using x) (by simpa using y)⟩
theorem Ac (c:List Value):∀ (cs:Array Value) (off k:Nat),off+k+c.length≤cs.size →
  ((c.zipIdx k).foldl (fun cs (p:Value × Nat)=>cs.setIfInBounds (off+p.2) p.1) cs).toList=splice cs.toList c (off+k):=by
 induction c with
 | nil=>intro cs off k h;simp [splice]
 | cons v rest ih =>
  intro cs off k h;simp only [List.length_cons] at h;rw [List.zipIdx_cons,List.foldl_cons,ih _ off (k+1) (by simp;omega)];apply List.ext_getElem?;intro j;rw [getElem?_splice _ _ _ _ (by simp;omega),getElem?_splice _ _ _ _ (by simp;omega),Array.toList_setIfInBounds];simp only [List.length_cons];by_cases h1:j < off+k
  ·rw [if_pos (by omega),if_pos h1,List.getElem?_set_ne (by omega)]
  ·rw [if_neg h1];by_cases h2:j=off+k
   ·subst h2;rw [if_pos (by omega),if_pos (by omega),List.getElem?_set_self (by simp;omega)];simp
   ·rw [if_neg (by omega)];by_cases h3:j < off+(k+1)+rest.length
    ·rw [if_pos h3,if_pos (by omega),show j - (off+k)=(j - (off+(k+1)))+1 from by omega];simp
    ·rw [if_neg h3,if_neg (by omega),List.getElem?_set_ne (by omega)]
theorem pz {place place':Nat→Option (Nat × Nat)} (hp:∀ i x,place i=some x→place' i=some x) :
  ∀ {parts parts':List (Nat × Value)} {cs out:List Value} {cs':Array Value},nO place cs parts=some out→jK γ parts parts'→cy γ cs cs'.toList →
   ∃ out',Instr.fill place' cs' parts'=some out'∧cy γ out out'.toList∧out'.size=cs'.size
 | [],[],cs,out,cs',h,_,hv=>by simp only [nO,qq9] at h;subst h;exact ⟨cs',rfl,hv,rfl⟩
 | [],_ :: _,_,_,_,_,h,_=>by simp [jK] at h
 | _ :: _,[],_,_,_,_,h,_=>by simp [jK] at h
 | (i,v) :: rest,(i',v') :: rest',cs,out,cs',h,hr,hv=>by
  obtain ⟨rfl,hvv⟩:=hr.2 0 _ _ rfl rfl;simp only [nO] at h
  cases hpi:place i with
  | none=>rw [hpi] at h;cases h
  | some os =>
   obtain ⟨off,size⟩:=os;rw [hpi] at h;simp only at h
   cases hc:(Nat.beq v.cells.toList.length size && Nat.ble (off+size) cs.length) with
   | false=>rw [hc] at h;cases h
   | true =>
    rw [hc] at h;simp only [qq7] at hc;have h1:=Nat.eq_of_beq_eq_true hc.1;have h2:=Nat.le_of_ble_eq_true hc.2;have hcl:=hvv.cells;have h1':v'.cells.size=size:=by rw [←h1,hcl.1];simp
    have h2':off+size≤cs'.size:=by have:=hv.1;simp at this;omega
    have hsp:=Ac v'.cells.toList cs' off 0 (by simp only [Array.length_toList];omega);simp only [Nat.add_zero] at hsp;have hv2:cy γ (splice cs v.cells.toList off) ((v'.cells.toList.zipIdx 0).foldl (fun cs (p:Value × Nat)=>cs.setIfInBounds (off+p.2) p.1) cs').toList:=by rw [hsp];exact hv.splice hcl off
    obtain ⟨out',e1,e2,e3⟩:=pz hp h hr.tail hv2;have hsz:((v'.cells.toList.zipIdx 0).foldl (fun cs (p:Value × Nat)=>cs.setIfInBounds (off+p.2) p.1) cs').size=cs'.size:=by have:=congrArg List.length hsp;rw [gN _ _ _ (by simp only [Array.length_toList];omega)] at this;simpa using this
    refine ⟨out',?_,e2,e3.trans hsz⟩;have hcond:(decide (v'.cells.size ≠ size) || decide (off+v'.cells.size > cs'.size))=false:=by rw [Bool.or_eq_false_iff];exact ⟨decide_eq_false (by omega),decide_eq_false (by omega)⟩
    have hz:Array.foldl (fun cs (p:Value × Nat)=>cs.setIfInBounds (off+p.2) p.1) cs' v'.cells.zipIdx=(v'.cells.toList.zipIdx 0).foldl (fun cs (p:Value × Nat)=>cs.setIfInBounds (off+p.2) p.1) cs':=by rw [←Array.foldl_toList,Array.toList_zipIdx]
    simp only [Instr.fill,hp i _ hpi,hcond,Bool.false_eq_true,if_false];rw [←e1,←hz]
theorem uW {P:Program} (f:Field→Nat × Nat) (w:World):∀ (l:List Field),(∀ x ∈ l,∃ i,P.info? x.type=some i∧f x=(x.offset,i.size)) →
  (l.mapM (m:=Sem) fun x=>do Pure.pure (x.offset,←sizeOf x.type)).run P w=.ok (l.map f) w:=by
 intro l
 induction l with
 | nil=>intro _;rfl
 | cons x l ih =>intro h;obtain ⟨i,hi,hf⟩:=h x (by simp);rw [List.mapM_cons];have ih':=ih (fun y hy=>h y (by simp [hy]));simp only [Sem.run_bind,dK hi,Result.andThen_ok,Sem.run_pure,ih',List.map_cons,hf]
theorem BW (hT:cE T) (h:HR γ g w) {t:TypeId} {parts parts':List (Nat × Value)} {v:Value} {e:cv} (ho:qz T t parts=some (v,e)) (hp:jK γ parts parts') :
  aV T.P γ g w n (do Pure.pure (Next.value (←Instr.build t parts'.toArray))) v e:=by
 unfold qz at ho
 cases hty:T.ty.get t with
 | none=>rw [hty] at ho;cases ho
 | some r =>
  obtain ⟨i,hi,hsz,_,hz,hu,hm⟩:=hT.ty t r hty;obtain ⟨und,s,bytes,zero,agg,cJ,cS⟩:=r;rw [hty] at ho;simp only at hz hu hm
  cases zero with
  | none=>cases ho
  | some z =>
   cases agg with
   | false=>cases ho
   | true =>
    simp only at ho
    cases hc:z.cells.toList.all bh with
    | false=>rw [hc] at ho;cases ho
    | true =>
     rw [hc] at ho;simp only [cond_true,Option.map_eq_some_iff,Prod.mk.injEq] at ho;obtain ⟨out,hfill,rfl,rfl⟩:=ho;have hv0:cy γ z.cells.toList z.cells.toList:=cy.of_flat hc
     cases und with
     | struct fs =>
      obtain ⟨_,hlen,hf⟩:=hm;have hmap:∀ x ∈ fs.toList,∃ i,T.P.info? x.type=some i∧(fun x:Field=>(x.offset,T.P.cellsOf x.type)) x=(x.offset,i.size):=fun x hx=>by obtain ⟨j,hj⟩:=List.mem_iff_getElem?.1 hx;obtain ⟨i',h1,_⟩:=hf j x (by simpa using hj);exact ⟨i',h1,by simp [Program.cellsOf,h1]⟩
      have hplaces:=uW (P:=T.P) _ w fs.toList hmap
      obtain ⟨out',e1,e2,_⟩:=pz (γ:=γ) (place:=gW (.struct fs) cJ cS) (place':=fun j=>((fs.toList.map fun x:Field=>(x.offset,T.P.cellsOf x.type)).toArray)[j]?) (by
       intro j x hx;simp only [gW] at hx;have hjl:j < fs.size:=by rw [←hlen];exact (List.getElem?_eq_some_iff.1 hx).1
       obtain ⟨i',h1,h2⟩:=hf j fs[j] (Array.getElem?_eq_getElem hjl);rw [hx] at h2;simp only [qq9] at h2;subst h2
       simp [hjl,Program.cellsOf,h1]) hfill hp hv0
      refine .pure h (aT (v:=.agg out') ?_) (by have:=VR.kD e2;simpa using this);have hpl:(fs.mapM (m:=Sem) fun f=>do Pure.pure (f.offset,←sizeOf f.type)).run T.P w=.ok ((fs.toList.map fun x:Field=>(x.offset,T.P.cellsOf x.type)).toArray) w:=by rw [Array.mapM_eq_mapM_toList];simp only [Sem.run_map,hplaces,Result.andThen_ok]
      simp only [Instr.build,Sem.run_bind,jE hi hz,Result.andThen_ok,cq hu,hpl,e1,Sem.run_pure]
     | array len el =>
      obtain ⟨_,i',hi',he⟩:=hm
      obtain ⟨out',e1,e2,_⟩:=pz (γ:=γ) (place:=gW (.array len el) cJ cS) (place':=fun j=>some (j * i'.size,i'.size)) (by
       intro j x hx;simp only [gW] at hx
       rw [←hx,he]) hfill hp hv0
      refine .pure h (aT (v:=.agg out') ?_) (by have:=VR.kD e2;simpa using this);simp only [Instr.build,Sem.run_bind,jE hi hz,Result.andThen_ok,cq hu,dK hi',e1,Sem.run_pure]
     | _=>exact absurd hm (by simp)
end
section
variable {T : bL} {γ : Gm} {g : aG} {w : World} {n : Nat}
theorem mY (zero:Array Value) (m:Nat) (h:m=0∨0 < zero.size) :
  ((Array.range m).map (zero[· % zero.size]!)).toList=cr zero.toList m:=by
 unfold cr;rw [Array.toList_map,Array.toList_range];apply List.map_congr_left;intro i hi;rw [List.mem_range] at hi
 rcases h with h|h
 ·omega
 ·have hlt:i % zero.size < zero.size:=Nat.mod_lt _ h;simp [hlt,List.getD_eq_getElem?_getD]
theorem lU {zero:List Value} (h:zero.all bh=true) (m:Nat) (hm:m=0∨0 < zero.length):(cr zero m).all bh=true:=by
 rw [List.all_eq_true];intro x hx;unfold cr at hx;obtain ⟨i,hi,rfl⟩:=List.mem_map.1 hx;rw [List.mem_range] at hi
 rcases hm with hm|hm
 ·omega
 ·have hlt:i % zero.length < zero.length:=Nat.mod_lt _ hm;rw [List.getD_eq_getElem?_getD,List.getElem?_eq_getElem hlt];exact List.all_eq_true.1 h _ (List.getElem_mem hlt)
theorem nP (zero:List Value) (m:Nat):(cr zero m).length=m:=by simp [cr]
theorem j8 (hT:cE T) {t:TypeId} {inf:yR} (h:elem? T t=some inf) :
  ∃ e i,T.P.underlying t=some (.slice e)∧T.P.info? e=some i∧i.size=inf.size∧i.bytes=inf.bytes∧i.zero=inf.zero:=by
 unfold elem? at h;split at h
 ·rename_i e _ _ _ _ _ _ he;obtain ⟨i,_,_,_,_,hu,_⟩:=hT.ty t _ he;obtain ⟨i',h1,h2,h3,h4,_⟩:=hT.ty e _ h;exact ⟨e,i',hu,h1,h2,h3,h4⟩
 ·cases h
theorem jv {inf:yR} (h:bZ inf=true):∃ z,inf.zero=some z∧z.cells.size=inf.size∧1≤inf.size∧z.cells.toList.all bh=true:=by
 unfold bZ at h;split at h
 ·rename_i z hz;simp only [qq7] at h;exact ⟨z,hz,by simpa using Nat.eq_of_beq_eq_true h.1.1,Nat.le_of_ble_eq_true h.1.2,h.2⟩
 ·cases h
theorem s8 (hT:cE T) (h:HR γ g w) {t:TypeId} {len:Nat} {parts parts':List (Nat × Value)} {v:Value} {e:cv}
  (hn:e.news=true→γ.loc n=none) (ho:ic T n t len parts=some (v,e)) (hp:jK γ parts parts') :
  aV T.P γ g w n (do Pure.pure (Next.value (←Instr.buildSlice t len parts'.toArray))) v e:=by
 unfold ic at ho
 cases he:elem? T t with
 | none=>rw [he] at ho;cases ho
 | some inf =>
  rw [he] at ho;simp only at ho;obtain ⟨el,i,hu,hi,hsz,_,hz⟩:=j8 hT he
  cases hc:(Nat.ble (len * inf.size) 65536 && bZ inf) with
  | false=>rw [hc] at ho;cases ho
  | true =>
   rw [hc] at ho;simp only [cond_true] at ho;simp only [qq7] at hc;have hle:=Nat.le_of_ble_eq_true hc.1;obtain ⟨z,hzz,hzs,h1,hfl⟩:=jv hc.2;rw [hzz] at ho;simp only [Option.map_some,Option.getD_some] at ho
   cases hf:nO (fun i=>some (i * inf.size,inf.size)) (cr z.cells.toList (len * inf.size)) parts with
   | none=>rw [hf] at ho;cases ho
   | some cells =>
    rw [hf] at ho;simp only [qq9,Prod.mk.injEq] at ho;obtain ⟨rfl,rfl⟩:=ho;have hpos:0 < z.cells.size:=by omega
    have harr:=mY z.cells (len * inf.size) (.inr hpos);have hflz:=lU hfl (len * inf.size) (.inr (by simpa using hpos));have hvr:cy γ (cr z.cells.toList (len * inf.size)) ((Array.range (len * inf.size)).map (z.cells[· % z.cells.size]!)).toList:=by rw [harr];exact cy.of_flat hflz
    obtain ⟨out',e1,e2,e3⟩:=pz (γ:=γ) (place:=fun i=>some (i * inf.size,inf.size)) (place':=fun i=>some (i * inf.size,inf.size)) (fun _ _ h=>h) hf hp hvr;refine aV.rA (el:=el) (cs':=out') (c:=len) h (hn rfl) (aT (v:=.slice (some ⟨w.heap.size,0,none⟩) len len) (w':=w.alloc (.cells out' el)) ?_) rfl rfl rfl rfl ?_ ?_ ?_
    ·have hg:¬ (len * inf.size > 2 ^ 24):=by omega
     have hz0:∀ f:Nat→Value,(Array.range 0).map f=#[]:=fun f=>by simp
     by_cases h0:len * inf.size=0
     ·rw [h0,hz0] at e1;simp only [Instr.buildSlice,Sem.run_bind,cq hu,Result.andThen_ok,dK hi,hsz,h0,if_true,hz0,e1,newRow];simp only [show ¬ ((0:Nat) > 2 ^ 24) from by omega,if_false,Sem.run_bind,Sem.run_pure,Result.andThen_ok,run_newObj_alloc]
     ·simp only [Instr.buildSlice,Sem.run_bind,cq hu,Result.andThen_ok,dK hi,hsz,hg,if_false,h0,jE hi (hz.trans hzz),Sem.run_pure,e1,newRow,run_newObj_alloc]
    ·have:=dM.Aa e2;simpa using this
    ·rw [e3];simp
    ·exact VR.slice (o:=0) (Gm.cD _ _ _ _) (qq6 _) (fun _=>rfl) (fun e=>by omega) (fun e=>by omega)
theorem dY {v:Value} {l:Nat} (h:jR v=some l):∃ k,v=.int k (l:Int):=by
 unfold jR at h;split at h
 ·rename_i k m
  cases hc:decide (m < 0) with
  | true=>rw [hc] at h;cases h
  | false =>rw [hc] at h;simp at h hc;exact ⟨k,by rw [←h];congr 1;omega⟩
 ·cases h
theorem uX (hT:cE T) (h:HR γ g w) {t:TypeId} {l l' c c' v:Value} {e:cv}
  (hn:e.news=true→γ.loc n=none) (ho:jb T n t l c=some (v,e)) (hl:VR γ l l') (hc:VR γ c c') :
  aV T.P γ g w n (do Pure.pure (Next.value (←Instr.makeSlice t l' c'))) v e:=by
 unfold jb at ho
 cases he:elem? T t with
 | none=>rw [he] at ho;cases ho
 | some inf =>
  rw [he] at ho;simp only at ho;obtain ⟨el,i,hu,hi,hsz,hby,hz⟩:=j8 hT he
  cases hln:jR l with
  | none=>rw [hln] at ho;cases ho
  | some ln =>
   cases hcn:jR c with
   | none=>rw [hln,hcn] at ho;cases ho
   | some cn =>
    rw [hln,hcn] at ho;simp only at ho;obtain ⟨k1,rfl⟩:=dY hln;obtain ⟨k2,rfl⟩:=dY hcn;obtain rfl:=hl.bN rfl;obtain rfl:=hc.bN rfl
    cases hcd:(Nat.ble ln cn && Nat.ble (inf.bytes * cn) 140737488355328 && Nat.ble cn 9223372036854775807 && bZ inf) with
    | false=>rw [hcd] at ho;cases ho
    | true =>
     rw [hcd] at ho;simp only [cond_true,qq9,Prod.mk.injEq] at ho;obtain ⟨rfl,rfl⟩:=ho;obtain ⟨c1,c2,c3,c4⟩:=BS hcd;have c1:=Nat.le_of_ble_eq_true c1;have c2:=Nat.le_of_ble_eq_true c2;have c3:=Nat.le_of_ble_eq_true c3;obtain ⟨z,hzz,hzs,h1,hfl⟩:=jv c4;have hpos:0 < z.cells.size:=by omega
     have hw1:IntKind.i64.wrap (ln:Int)=ln:=IntWalk.i64_in _ (by omega);have hw2:IntKind.i64.wrap (cn:Int)=cn:=IntWalk.i64_in _ (by omega)
     refine aV.rA (el:=el) (cs':=(Array.range (cn * inf.size)).map (z.cells[· % z.cells.size]!)) (c:=cn) h (hn rfl)
      (aT (v:=.slice (some ⟨w.heap.size,0,none⟩) ln cn) (w':=w.alloc (.cells ((Array.range (cn * inf.size)).map (z.cells[· % z.cells.size]!)) el)) ?_) rfl rfl rfl rfl ?_ (by simp) ?_
     ·have g1:¬ ((ln:Int) < 0):=by omega
      have g2:¬ ((ln:Int) > (cn:Int)):=by omega
      have g3:¬ ((cn:Int) < 0):=by omega
      have g4:¬ ((i.bytes:Int) * (cn:Int) > 2 ^ 48):=by rw [hby];norm_cast;omega
      have hask:∀ k:Nat,(askRoom k).run T.P w=.ok () w:=fun k=>by
       unfold askRoom;split
       ·rfl
       ·rfl
      have hz0:∀ f:Nat→Value,(Array.range 0).map f=#[]:=fun f=>by simp
      by_cases h0:cn * inf.size=0
      ·simp only [Instr.makeSlice,Sem.run_bind,cq hu,Result.andThen_ok,asInt,asIntOf,Sem.run_pure,ru hi,hw1,hw2,g1,g2,g3,g4,decide_false,Bool.or_false,Bool.false_eq_true,if_false,
        Int.toNat_natCast,hask,dK hi,hsz,h0,if_true,hz0,newRow,run_newObj_alloc]
      ·simp only [Instr.makeSlice,Sem.run_bind,cq hu,Result.andThen_ok,asInt,asIntOf,Sem.run_pure,ru hi,hw1,hw2,g1,g2,g3,g4,decide_false,Bool.or_false,Bool.false_eq_true,if_false,
        Int.toNat_natCast,hask,dK hi,hsz,h0,jE hi (hz.trans hzz),newRow,run_newObj_alloc]
     ·intro j u hu';rw [Nat.zero_add];have hz':(z.cells.toList.all bh)=true:=hfl;simp only [Option.map_some,hzz,Option.getD_some] at hu';have hjl:j < ln * inf.size:=by have:=(List.getElem?_eq_some_iff.1 hu').1;rwa [nP] at this
      have hjc:j < cn * inf.size:=Nat.lt_of_lt_of_le hjl (Nat.mul_le_mul_right _ c1);have harr:=mY z.cells (cn * inf.size) (.inr hpos);have hflat:=List.all_eq_true.1 (lU hfl (ln * inf.size) (.inr (by simpa using hpos))) u (List.mem_of_getElem? hu');refine ⟨u,?_,.flat hflat⟩;have:((Array.range (cn * inf.size)).map (z.cells[· % z.cells.size]!)).toList[j]?=some u:=by rw [harr,←hu'];unfold cr;rw [List.getElem?_map,List.getElem?_map,List.getElem?_range hjl,List.getElem?_range hjc]
      rw [←Array.getElem?_toList];exact this
     ·have hcap:=Gm.pg γ n w.heap.size cn
      cases hb:Nat.beq ln cn with
      | true =>have:=Nat.eq_of_beq_eq_true hb;subst this;exact VR.slice (o:=0) (Gm.cD _ _ _ _) (qq6 _) (fun _=>rfl) (fun e=>by simp at e) (fun e=>by simp only [cond_true] at e;omega)
      | false =>
       have hne:ln ≠ cn:=fun e=>by rw [Tr.beq_eq,decide_eq_true e] at hb;cases hb
       exact VR.slice (o:=0) (Gm.cD _ _ _ _) c1 (fun e=>by simp at e) (fun _=>⟨rfl,hcap.symm⟩) (fun e=>by simp only [cond_false] at e;omega)
theorem BX (hT:cE T) (h:HR γ g w) {t ty:TypeId} {x x' v:Value} {e:cv} (ho:kA T t x g=some (v,e)) (hx:VR γ x x') :
  aV T.P γ g w n (do Pure.pure (Next.value (←Builtin.len_ #[t] ty #[x']))) v e:=by
 unfold kA at ho;split at ho
 ·rename_i el _ _ _ _ _ _ m _ hty;simp only [qq9,Prod.mk.injEq] at ho;obtain ⟨rfl,rfl⟩:=ho;obtain ⟨i,_,_,_,_,hu,_⟩:=hT.ty t _ hty
  obtain ⟨a',c',rfl⟩:∃ a' c',x'=.slice a' m c':=by
   cases hx with
   | flat=>exact ⟨_,_,rfl⟩
   | slice=>exact ⟨_,_,rfl⟩
   | dc=>exact ⟨_,_,rfl⟩
  exact .pure h (aT (v:=.int .i64 m) (by simp [Builtin.len_,cq hu,goInt])) (.flat rfl)
 ·rename_i kt et _ _ _ _ _ _ r hty
  cases hm:map? (g r) with
  | none=>rw [hm] at ho;cases ho
  | some p =>
   obtain ⟨es,clock⟩:=p;rw [hm] at ho;simp only [qq9,Prod.mk.injEq] at ho;obtain ⟨rfl,rfl⟩:=ho;obtain ⟨i,_,_,_,_,hu,_⟩:=hT.ty t _ hty
   have hgr:g r=some (.map es clock):=by
    unfold map? at hm;split at hm
    ·simp at hm;obtain ⟨rfl,rfl⟩:=hm;assumption
    ·cases hm
   cases hx with
   | flat hf=>simp [bh] at hf
   | map hl =>rename_i b;obtain ⟨_,_,es',hw,hent⟩:=h.gT r b 0 _ hgr hl;exact .pure h (aT (v:=.int .i64 es.length) (by simp [Builtin.len_,cq hu,goInt,getObj,Sem.run,hw,hent.1])) (.flat rfl)
 ·rename_i m _ _ _ _ _ _ _ hty;simp only [qq9,Prod.mk.injEq] at ho;obtain ⟨rfl,rfl⟩:=ho;obtain ⟨i,_,_,_,_,hu,_⟩:=hT.ty t _ hty;exact .pure h (aT (v:=.int .i64 m) (by simp [Builtin.len_,cq hu,goInt])) (.flat rfl)
 ·rename_i s hty;simp only [qq9,Prod.mk.injEq] at ho;obtain ⟨rfl,rfl⟩:=ho;obtain ⟨i,_,_,_,_,hu,_⟩:=hT.ty t _ hty;obtain rfl:=hx.bN rfl
  exact .pure h (aT (v:=.int .i64 s.data.toList.length) (by
   have:(s.size:Nat)=s.data.toList.length:=rfl
   simp only [Builtin.len_,cq hu,goInt,Sem.run_bind,Result.andThen_ok,Sem.run_pure,this,List.getElem?_toArray,List.getElem?_cons_zero])) (.flat rfl)
 ·cases ho
end
section
variable {T : bL} {γ : Gm} {g : aG} {w : World} {n : Nat}
theorem rC (h:HR γ g w) {size m:Nat} {x x':Value} {l:List Value} (hr:bT g size x=some l) (hx:VR γ x x') (hm:vu x=some m) :
  ∃ l',cy γ l l'∧l.length=m * size∧(∀ (P:Program) w',w'.heap=w.heap→(Builtin.firstCells size m x').run P w'=.ok l'.toArray w')∧∃ a' c',x'=.slice a' m c':=by
 have empty:∀ (a':Option Addr) (c':Nat) (P:Program) (w':World),(Builtin.firstCells size 0 (.slice a' 0 c')).run P w'=.ok #[] w':=by intro a' c' P w';cases a' <;> simp [Builtin.firstCells,loadCells,loadCellsFrom]
 cases x with
 | slice base ln cp =>
  simp only [vu,qq9] at hm;subst hm
  cases base with
  | none =>
   cases ln with
   | succ k=>simp [bT] at hr
   | zero =>
    simp only [bT,qq9] at hr;subst hr
    cases hx with
    | flat=>exact ⟨[],cy.nil γ,by simp,fun P w' _=>empty _ _ P w',_,_,rfl⟩
  | some ad =>
   obtain ⟨k,o,sp⟩:=ad
   cases sp with
   | some s=>simp [bT] at hr
   | none =>
    simp only [bT] at hr
    cases hx with
    | flat hf=>simp [bh] at hf
    | dc =>
     have hl:l=[]:=by
      cases hc:cells? (g k) with
      | none=>rw [hc] at hr;simp at hr;exact hr
      | some p =>
       obtain ⟨cs,own,es⟩:=p;rw [hc] at hr;simp only [cut,Nat.zero_mul,Nat.add_zero,List.take_zero] at hr;cases hb:Nat.ble o cs.length <;> rw [hb] at hr <;> simp at hr
       exact hr
     subst hl;exact ⟨[],cy.nil γ,by simp,fun P w' _=>empty _ _ P w',_,_,rfl⟩
    | slice hl hn ht hlo _ =>
     rename_i b d c' _
     cases hc:cells? (g k) with
     | none =>
      rw [hc] at hr
      cases hb:Nat.beq ln 0 with
      | false=>rw [hb] at hr;cases hr
      | true =>have:=Nat.eq_of_beq_eq_true hb;subst this;simp at hr;subst hr;exact ⟨[],cy.nil γ,by simp,fun P w' _=>empty _ _ P w',_,_,rfl⟩
     | some p =>obtain ⟨cs,own,es⟩:=p;rw [hc] at hr;obtain ⟨cs',el,fz,hw,hcr,_⟩:=h.cells hc hl;obtain ⟨l',h1,h2,h3,h4,_⟩:=hcr.HZ hr;refine ⟨l',h1,h4,fun P w' hw'=>?_,_,_,rfl⟩;refine run_firstCells_some w' size ln _ ln c' l' h2 (fun j v hj=>?_);rw [Addr.add_lit,rz (w:=w') (by rw [hw'];exact hw)];exact h3 j v hj
 | _=>simp [vu] at hm
theorem HR.move {w':World} (h:HR γ g w) {k b c:Nat} {a0 a:bf} (h0:g k=some a0) (ho:a0.own=true) (hl:γ.loc k=some (b,0)) (hn:γ.loc n=none)
  (hsz:w'.heap.size=w.heap.size) (hh:∀ i,i ≠ b→w'.heap[i]?=w.heap[i]?) (_:a.own=true) (ha:BQ (γ.add n b c) w'.heap n b 0 a):HR (γ.add n b c) (iB (iB g k .dead) n a) w':=by
 have hle:=Gm.mW (b:=b) (c:=c) hn;have hkn:k ≠ n:=fun e=>by subst e;rw [hl] at hn;cases hn
 have hlb:=h.lt k b 0 hl
 have away:∀ i x b' o,i ≠ n→iB (iB g k .dead) n a i=some x→x ≠ .dead→(γ.add n b c).loc i=some (b',o)→g i=some x∧γ.loc i=some (b',o)∧i ≠ k∧b' ≠ b:=by
  intro i x b' o hi hx hd hli;rw [gJ _ _ hi] at hx;by_cases hik:i=k
  ·subst hik;rw [jD] at hx;cases hx;exact absurd rfl hd
  ·rw [gJ _ _ hik] at hx;rw [Gm.bO _ _ _ hi] at hli;exact ⟨hx,hli,hik,fun e=>by subst e;exact h.inj k i b' 0 o a0 x h0 ho hx hd (Ne.symm hik) hl hli⟩
 have hB:=h.RK h0 ho hl;refine ⟨fun i b' o x hx hli=>?_,fun i i' b' o o' x x' hx hox hx' hd hne hli hli'=>?_,fun i b' o hli=>?_,?_,fun x hx=>⟨(h.gl x hx).1,by rw [hh _ (by have:=(h.gl x hx).1;omega)];exact (h.gl x hx).2⟩⟩
 ·by_cases hi:i=n
  ·subst hi;rw [jD] at hx;cases hx;rw [Gm.cD] at hli;cases hli;exact ha
  ·by_cases hd:x=.dead
   ·subst hd;trivial
   ·obtain ⟨hx0,hl0,_,hb⟩:=away i x b' o hi hx hd hli;exact (h.gT i b' o x hx0 hl0).mono hle hl0 (hh b' hb)
 ·have hxd:x ≠ .dead:=fun e=>by subst e;cases hox
  by_cases hi:i=n
  ·subst hi;have hb:b'=b:=by rw [Gm.cD] at hli;cases hli;rfl
   exact (away i' x' b' o' (Ne.symm hne) hx' hd hli').2.2.2 hb
  ·by_cases hi':i'=n
   ·subst hi';have hb:b'=b:=by rw [Gm.cD] at hli';cases hli';rfl
    exact (away i x b' o hi hx hxd hli).2.2.2 hb
   ·obtain ⟨a1,a2,_,_⟩:=away i x b' o hi hx hxd hli;obtain ⟨b1,b2,_,_⟩:=away i' x' b' o' hi' hx' hd hli';exact h.inj i i' b' o o' x x' a1 hox b1 hd hne a2 b2
 ·rw [hsz];by_cases hi:i=n
  ·subst hi;rw [Gm.cD] at hli;cases hli;exact hlb
  ·rw [Gm.bO _ _ _ hi] at hli;exact h.lt i b' o hli
 ·rw [hsz];exact h.base
theorem HR.kill (h:HR γ g w) {k:Nat} {a0:bf} (h0:g k=some a0) (ho:a0.own=true) {b:Nat} (hl:γ.loc k=some (b,0)):HR γ (iB g k .dead) w :=
 h.put h0 ho hl rfl (fun _ _=>rfl) (.inr rfl) trivial
theorem vJ {P:Program} {t u ty e e2:TypeId} {i:TypeInfo} {z:Value} (ht:P.underlying t=some (.slice e)) (hu:P.underlying u=some (.slice e2)) (hi:P.info? e=some i) (hz:i.zero=some z)
  {base:Option Addr} {ln cp m:Nat} {x':Value} {olds news:List Value} {a':Option Addr} {c':Nat} (hx:x'=.slice a' m c')
  (hold:∀ w',w'.heap=w.heap→(Builtin.firstCells i.size ln (.slice base ln cp)).run P w'=.ok olds.toArray w')
  (hnew:∀ w',w'.heap=w.heap→(Builtin.firstCells i.size m x').run P w'=.ok news.toArray w')
  (hg:cp < ln+m) (h63:((ln+m:Nat):Int)≤9223372036854775807) (hb:(ln+m) * i.bytes≤140737488355328) :
  (Builtin.append_ #[t,u] ty #[.slice base ln cp,x']).run P w =
   .ok (.slice (some ⟨w.heap.size,0,none⟩) (ln+m) (grownCap w (ln+m) cp e))
    (w.drew.alloc (.cells (olds.toArray++news.toArray++Builtin.zeroCells z.cells (grownCap w (ln+m) cp e - (ln+m))) e)):=by
 subst hx;have hn:¬ (ln+m≤cp):=by omega
 have h63':¬ (9223372036854775807 < ((ln:Int)+(m:Int))):=by omega
 have hfit:=growslice_fits hg hb;have h48':¬ (281474976710656 < Builtin.nextslicecap (ln+m) cp * i.bytes):=by omega
 have h1:=hold w.drew rfl;have h2:=hnew w.drew rfl;simp [Builtin.append_,run_underlying ht,run_underlying hu,sizeOf,typeInfo,zeroValue,hi,hz,Builtin.lenOf,hn,h63',h48',Question.forced,h1,h2,newRow,grownCap]
 congr 2
 apply Array.ext';simp [List.append_assoc]
theorem x9 {P:Program} {t u ty e e2 el:TypeId} {i:TypeInfo} (ht:P.underlying t=some (.slice e)) (hu:P.underlying u=some (.slice e2)) (hi:P.info? e=some i)
  {b ln cp m:Nat} {x':Value} {news:List Value} {a':Option Addr} {c':Nat} (hx:x'=.slice a' m c') {cur:Array Value} (hw:w.heap[b]?=some (.cells cur el (0,0)))
  (hnew:(Builtin.firstCells i.size m x').run P w=.ok news.toArray w) (h1:∀ v ∈ news,v.oneCell'=true)
  (hroom:ln+m≤cp) (hfit:ln * i.size+news.length≤cur.size) :
  (Builtin.append_ #[t,u] ty #[.slice (some ⟨b,0,none⟩) ln cp,x']).run P w =
   .ok (.slice (some ⟨b,0,none⟩) (ln+m) cp) (w.setRow b (splice cur.toList news (ln * i.size)).toArray):=by
 subst hx;have hst:=run_storeCells_at P b (ln * i.size) el news 0 cur w hw (by simpa using hfit) h1;simp only [Nat.add_zero] at hst;simp [Builtin.append_,run_underlying ht,run_underlying hu,sizeOf,typeInfo,hi,Builtin.lenOf,hroom,hnew,Addr.add_lit,hst,splice]
theorem ya {P:Program} {t u ty:TypeId} {el e2:TypeId} {i:TypeInfo} {w:World} (ht:P.underlying t=some (.slice el)) (hu:P.underlying u=some (.slice e2)) (hi:P.info? el=some i)
  {b o ln cp m:Nat} {x':Value} {a:Option Addr} {c:Nat} (hx:x'=.slice a m c) {cur:Array Value} {el':TypeId} {news:List Value} (hw:w.heap[b]?=some (.cells cur el' (0,0)))
  (hnew:(Builtin.firstCells i.size m x').run P w=.ok news.toArray w) (h1:∀ v ∈ news,v.oneCell'=true) (hroom:ln+m≤cp) (hfit:o+ln * i.size+news.length≤cur.size) :
  (Builtin.append_ #[t,u] ty #[.slice (some ⟨b,o,none⟩) ln cp,x']).run P w =
   .ok (.slice (some ⟨b,o,none⟩) (ln+m) cp) (w.setRow b (splice cur.toList news (o+ln * i.size)).toArray):=by
 subst hx;have hst:=run_storeCells_at P b (o+ln * i.size) el' news 0 cur w hw (by simpa using hfit) h1;simp only [Nat.add_zero] at hst;simp [Builtin.append_,run_underlying ht,run_underlying hu,sizeOf,typeInfo,hi,Builtin.lenOf,hroom,hnew,Addr.add_lit,hst,splice]
theorem Ad (hT:cE T) (h:HR γ g w) {t u ty e2:TypeId} (hu:T.P.underlying u=some (.slice e2)) {s s' x x' v:Value} {e:cv}
  (hn:e.news=true→γ.loc n=none) (ho:gy T n t s x g=some (v,e)) (hs:VR γ s s') (hx:VR γ x x') :
  aV T.P γ g w n (do Pure.pure (Next.value (←Builtin.append_ #[t,u] ty #[s',x']))) v e:=by
 unfold gy at ho
 cases he:elem? T t with
 | none=>rw [he] at ho;cases ho
 | some inf =>
  rw [he] at ho;simp only at ho;obtain ⟨el,i,hut,hi,hsz,hby,hz⟩:=j8 hT he
  cases s with
  | slice base ln cp =>
   simp only at ho
   cases hm:vu x with
   | none=>rw [hm] at ho;cases ho
   | some m =>
    cases hro:bT g inf.size (.slice base ln cp) with
    | none=>rw [hm,hro] at ho;cases ho
    | some old =>
     cases hrn:bT g inf.size x with
     | none=>rw [hm,hro,hrn] at ho;cases ho
     | some new =>
      rw [hm,hro,hrn] at ho;simp only at ho
      cases hcd:(Nat.ble ((ln+m) * inf.bytes) 140737488355328 && Nat.ble (ln+m) 9223372036854775807 && new.all bH && bZ inf) with
      | false=>rw [hcd] at ho;cases ho
      | true =>
       rw [hcd] at ho;simp only [cond_true] at ho;obtain ⟨c1,c2,c3,c4⟩:=BS hcd;have c1:=Nat.le_of_ble_eq_true c1;have c2:=Nat.le_of_ble_eq_true c2;obtain ⟨z,hzz,hzs,h1,hfl⟩:=jv c4;obtain ⟨old',ov,ol,orun,a0,k0,hs'⟩:=rC h hro hs rfl;obtain ⟨new',nv,nl,nrun,a1,k1,hx'⟩:=rC h hrn hx hm;have nl':new'.length=m * inf.size:=by rw [←nv.1];exact nl
       have ol':old'.length=ln * inf.size:=by rw [←ov.1];exact ol
       cases hm0:Nat.beq m 0 with
       | true =>
        rw [hm0] at ho;simp only [cond_true,qq9,Prod.mk.injEq] at ho;obtain ⟨rfl,rfl⟩:=ho;have:=Nat.eq_of_beq_eq_true hm0;subst this;refine .pure h (aT (v:=s') ?_) hs;have hn0:new'=[]:=List.eq_nil_of_length_eq_zero (by rw [nl'];simp)
        have hcap:ln≤k0:=by
         rw [hs'] at hs
         cases hs with
         | flat hf =>
          cases ln with
          | zero=>exact qq5 _
          | succ q=>cases base <;> simp [bh] at hf
         | slice _ hc _ _=>exact hc
         | dc=>omega
        subst hn0;have hrun:=nrun T.P w rfl;subst hs';subst hx';rw [←hsz] at hrun
        cases a0 with
        | none=>simp [Builtin.append_,run_underlying hut,run_underlying hu,sizeOf,typeInfo,hi,Builtin.lenOf,hcap,hrun]
        | some ad=>simp [Builtin.append_,run_underlying hut,run_underlying hu,sizeOf,typeInfo,hi,Builtin.lenOf,hcap,hrun,storeCells]
       | false =>
        rw [hm0] at ho;simp only [cond_false] at ho;have hmpos:0 < m:=Nat.pos_of_ne_zero (fun e=>by subst e;cases hm0)
        have fresh:∀ {g1:aG} {eff:cv},HR γ g1 w→(∀ k a,g1 k=some a→a ≠ .dead→g k=some a)→k0 < ln+m→eff.news=true→γ.loc n=none→(eff.on n g=iB g1 n (.cells (old++new) true inf.size)) →
          aV T.P γ g w n (do Pure.pure (Next.value (←Builtin.append_ #[t,u] ty #[s',x']))) (.slice (some ⟨n,0,none⟩) (ln+m) (ln+m+1)) eff:=by
         intro g1 eff hg1 hgg hlt hnw hn heff;have hgr:=grownCap_ge w (ln+m) k0 el
         have hnew:=vJ (P:=T.P) (w:=w) (ty:=ty) hut hu hi (hz.trans hzz) (base:=a0) (ln:=ln) (cp:=k0) (m:=m) (olds:=old') (news:=new') hx'
          (fun w' hw'=>by rw [hsz,←hs'];exact orun T.P w' hw') (fun w' hw'=>by rw [hsz];exact nrun T.P w' hw') hlt (by omega) (by rw [hby];exact c1)
         rw [←hs'] at hnew;have hle:=Gm.mW (b:=w.heap.size) (c:=grownCap w (ln+m) k0 el) hn;have hcr:dM γ (old++new) (old'.toArray++new'.toArray++Builtin.zeroCells z.cells (grownCap w (ln+m) k0 el - (ln+m))) 0:=by intro j y hy;obtain ⟨y',e1,e2⟩:=(ov.append nv).get hy;refine ⟨y',?_,e2⟩;rw [Nat.zero_add,←Array.getElem?_toList];simp only [Array.toList_append];rw [List.getElem?_append_left (by have:=(List.getElem?_eq_some_iff.1 e1).1;simpa using this)];exact e1
         refine ⟨_,_,γ.add n w.heap.size (grownCap w (ln+m) k0 el),.inl (aT hnew),hle,fun k hk=>Gm.bO _ _ _ (fun e=>Bool.noConfusion (hnw.symm.trans (hk e))),?_,?_,?_⟩
         ·rw [heff];refine HR.new (w:=w) hg1 hn (obj:=_) rfl ?_;refine ⟨_,el,(0,0),by show (w.heap.push _)[w.heap.size]?=_;simp,hcr.mono hle,fun _=>⟨rfl,rfl,h.base,?_⟩⟩;rw [Gm.pg];simp only [Array.size_append,List.size_toArray,size_zeroCells,hzs,ol',nl',←Nat.add_mul];apply Nat.mul_le_mul_right;omega
         ·exact VR.slice (o:=0) (Gm.cD _ _ _ _) hgr (fun e=>by omega) (fun _=>⟨rfl,(Gm.pg _ _ _ _).symm⟩) (fun e=>by omega)
         ·rw [heff];exact j7.N6 hgg (obj:=_) rfl rfl rfl rfl
        unfold iD at ho
        cases htight:Nat.beq cp ln with
        | true =>
         rw [htight] at ho;simp only [cond_true,qq9,Prod.mk.injEq] at ho;obtain ⟨rfl,rfl⟩:=ho;have hcp:=Nat.eq_of_beq_eq_true htight;subst hcp
         have hk0:k0=cp:=by
          rw [hs'] at hs
          cases hs with
          | flat=>rfl
          | slice _ _ ht _=>exact ht rfl
          | dc _ ht=>exact ht rfl
         exact fresh h (fun _ _ h _=>h) (by omega) rfl (hn rfl) rfl
        | false =>
         rw [htight] at ho;simp only [cond_false] at ho
         cases hin:Nat.ble (ln+m+3) cp with
         | true =>
          rw [hin] at ho;simp only [cond_true] at ho;have hin:=Nat.le_of_ble_eq_true hin;unfold mg at ho;split at ho
          ·rename_i k o
           cases hc:cells? (g k) with
           | none=>rw [hc] at ho;cases ho
           | some p =>
            obtain ⟨cs,own,es⟩:=p;rw [hc] at ho;simp only at ho
            cases hcd2:(own && Nat.ble (o+(ln+m) * inf.size) cs.length) with
            | false=>rw [hcd2] at ho;cases ho
            | true =>
             rw [hcd2] at ho;simp only [cond_true,qq9,Prod.mk.injEq] at ho;obtain ⟨rfl,rfl⟩:=ho;rw [qq7] at hcd2;obtain ⟨d1,d2⟩:=hcd2;subst d1;have d2:=Nat.le_of_ble_eq_true d2;rw [hs'] at hs
             cases hs with
             | flat hf=>simp [bh] at hf
             | dc _ _ h2=>exact absurd h2 (by omega)
             | slice hl hle0 ht hlo hk =>
              rename_i b d;have hroom:ln+m≤k0:=by have:=hk (by omega);omega
              obtain ⟨cs',el',fz,hw,hcr,hown⟩:=h.cells hc hl;obtain ⟨rfl,rfl,hB,hcapsz⟩:=hown rfl
              have hszp:1≤inf.size:=by
               unfold bZ at c4;split at c4
               ·simp only [qq7] at c4;exact Nat.le_of_ble_eq_true c4.1.2
               ·cases c4
              have hcs:cs.length≤cs'.size:=by
               by_cases hn:cs=[]
               ·subst hn;simp
               ·have:=hcr.size_le hn;omega
              have hmul:(ln+m) * inf.size=ln * inf.size+m * inf.size:=Nat.add_mul _ _ _;have hfit:o+ln * inf.size+new'.length≤cs'.size:=by rw [nl'];omega
              have hrun:=ya (P:=T.P) (w:=w) (ty:=ty) hut hu hi (b:=b) (o:=0+o) (ln:=ln) (cp:=k0) hx' hw (by rw [hsz];exact nrun T.P w rfl) (nv.bH c3) hroom (by rw [hsz,Nat.zero_add];exact hfit);obtain ⟨o1,o2,o3,o4⟩:=setRow_os w b (splice cs'.toList new' (0+o+ln * i.size)).toArray;refine ⟨_,_,γ,.inl (aT (by rw [hs'];exact hrun)),Gm.Le.refl γ,fun _ _=>rfl,?_,VR.slice hl hroom (fun e=>by omega) (fun e=>by omega) (fun e=>hk (by omega)),?_⟩
              ·refine h.put (eT hc) rfl hl o4 (fun j hj=>setRow_other w b j _ hj) (.inl rfl) ?_;refine ⟨_,el',(0,0),setRow_heap w b cs' _ el' _ hw,?_,fun _=>⟨rfl,rfl,hB,?_⟩⟩
               ·rw [hsz,Nat.zero_add];exact hcr.splice nv (by rw [nl];omega) (by simpa using hfit)
               ·rw [List.size_toArray,gN _ _ _ (by rw [hsz,Nat.zero_add];simpa using hfit)];simpa using hcapsz
              ·exact j7.put (eT hc) rfl hl o1 o2 o3 o4 (fun j hj=>setRow_other w b j _ hj)
          ·cases ho
         | false =>
         rw [hin] at ho;simp only [cond_false] at ho;split at ho
         ·rename_i k
          cases hc:cells? (g k) with
          | none=>rw [hc] at ho;cases ho
          | some p =>
           obtain ⟨cs,own,es⟩:=p;rw [hc] at ho;simp only at ho
           cases hcd2:(own && Nat.beq cp (ln+1) && Nat.beq cs.length (ln * inf.size) && Nat.beq es inf.size) with
           | false=>rw [hcd2] at ho;cases ho
           | true =>
            rw [hcd2] at ho;simp only [cond_true,qq9,Prod.mk.injEq] at ho;obtain ⟨rfl,rfl⟩:=ho;obtain ⟨d1,d2,d3,d4⟩:=BS hcd2;subst d1;have d2:=Nat.eq_of_beq_eq_true d2;have d3:=Nat.eq_of_beq_eq_true d3;have d4:=Nat.eq_of_beq_eq_true d4;subst d2;subst d4;have hgk:=eT hc;rw [hs'] at hs
            cases hs with
            | flat hf=>simp [bh] at hf
            | dc hne=>exact absurd rfl hne
            | slice hl hle0 ht hlo _ =>
             rename_i b d _;obtain ⟨cs',el',fz,hw,hcr,hown⟩:=h.cells hc hl;obtain ⟨rfl,rfl,hB,hcapsz⟩:=hown rfl;obtain ⟨_,hcap⟩:=hlo rfl;by_cases hroom:ln+m≤k0
             ·
              have hfit:ln * inf.size+new'.length≤cs'.size:=by rw [nl',←Nat.add_mul];refine Nat.le_trans (Nat.mul_le_mul_right _ hroom) ?_;rw [hcap];exact hcapsz
              have hin:=x9 (P:=T.P) (w:=w) (ty:=ty) hut hu hi (b:=b) (ln:=ln) (cp:=k0) hx' hw (by rw [hsz];exact nrun T.P w rfl) (nv.bH c3) hroom (by rw [hsz];exact hfit);have hle:=Gm.mW (b:=b) (c:=k0) (hn rfl);obtain ⟨o1,o2,o3,o4⟩:=setRow_os w b (splice cs'.toList new' (ln * i.size)).toArray;refine ⟨_,_,γ.add n b k0,.inl (aT (by rw [hs'];exact hin)),hle,fun k hk=>Gm.bO _ _ _ (fun e=>Bool.noConfusion (hk e:true=false)),?_,?_,?_⟩
              ·refine h.move hgk rfl hl (hn rfl) o4 (fun j hj=>setRow_other w b j _ hj) rfl ?_;refine ⟨_,el',(0,0),setRow_heap w b cs' _ el' _ hw,?_,fun _=>⟨rfl,rfl,hB,?_⟩⟩
               ·
                have hov:dM γ old cs' 0:=by
                 intro j y hy;unfold bT at hro;simp only [hc] at hro;unfold cut at hro
                 cases hb2:Nat.ble (0+ln * inf.size) cs.length with
                 | false=>rw [hb2] at hro;cases hro
                 | true =>rw [hb2] at hro;simp at hro;rw [←hro] at hy;rw [←d3,List.take_length] at hy;exact hcr j y hy
                intro j y hy;rw [Nat.zero_add,List.getElem?_toArray,getElem?_splice _ _ _ _ (by rw [hsz];simpa using hfit),hsz];by_cases hj:j < ln * inf.size
                ·rw [if_pos hj];rw [List.getElem?_append_left (by rw [ol];exact hj)] at hy;obtain ⟨y',e1,e2⟩:=hov j y hy;exact ⟨y',by simpa using e1,e2.mono hle⟩
                ·rw [if_neg hj];rw [List.getElem?_append_right (by rw [ol];omega),ol] at hy;have hjn:=(List.getElem?_eq_some_iff.1 hy).1;rw [nl] at hjn;rw [if_pos (by rw [nl'];omega)];obtain ⟨y',e1,e2⟩:=nv.get hy;exact ⟨y',e1,e2.mono hle⟩
               ·rw [Gm.pg,List.size_toArray,gN _ _ _ (by rw [hsz];simpa using hfit),hcap];simpa using hcapsz
              ·exact VR.slice (o:=0) (Gm.cD _ _ _ _) hroom (fun e=>by omega) (fun _=>⟨rfl,(Gm.pg _ _ _ _).symm⟩) (fun e=>by omega)
              ·exact j7.move hgk rfl hl o1 o2 o3 o4 (fun j hj=>setRow_other w b j _ hj)
             ·exact fresh (h.kill hgk rfl hl) (fun i a hi hio=>by
               by_cases hik:i=k
               ·subst hik;rw [jD] at hi;cases hi;exact absurd rfl hio
               ·rw [gJ _ _ hik] at hi;exact hi) (by omega) rfl (hn rfl) rfl
         ·cases ho
  | _=>cases ho
end
end Go.RM
