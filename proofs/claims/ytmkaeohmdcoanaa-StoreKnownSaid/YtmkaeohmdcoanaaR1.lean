/-
  An abstract machine for the program's code: definitions. That a run of it is a run of the model's machine, for all orders of evaluation and all capacities, is shown elsewhere. No condition.
-/
import Derived.RangeFuncIn
import Derived.RangeFuncRecord
import Derived.RangeFuncLeaves
import Derived.WalkKit
import Derived.OrdersIn
namespace Go.RM

/-! ### A small trie -/

inductive Tr (α : Type) where
  | leaf
  | node (l : Tr α) (v : Option α) (r : Tr α)

namespace Tr
variable {α : Type}

noncomputable def get (t : Tr α) : Nat → Option α :=
  Tr.rec (motive := fun _ => Nat → Option α) (fun _ => none)
    (fun _ v _ gl gr i => cond (Nat.beq i 0) v (cond (Nat.beq (Nat.mod i 2) 1) (gl (Nat.div i 2)) (gr (Nat.pred (Nat.div i 2))))) t

noncomputable def lone (x : α) (fuel : Nat) : Nat → Tr α :=
  Nat.rec (motive := fun _ => Nat → Tr α) (fun _ => .leaf)
    (fun _ s i => cond (Nat.beq i 0) (.node .leaf (some x) .leaf) (cond (Nat.beq (Nat.mod i 2) 1) (.node (s (Nat.div i 2)) none .leaf) (.node .leaf none (s (Nat.pred (Nat.div i 2)))))) fuel

noncomputable def set (t : Tr α) (i : Nat) (x : α) : Tr α :=
  Tr.rec (motive := fun _ => Nat → Tr α) (fun i => lone x (Nat.succ i) i)
    (fun l v r sl sr i => cond (Nat.beq i 0) (.node l (some x) r) (cond (Nat.beq (Nat.mod i 2) 1) (.node (sl (Nat.div i 2)) v r) (.node l v (sr (Nat.pred (Nat.div i 2)))))) t i

end Tr

noncomputable section

/-! ### The abstract heap -/

inductive ABlk where
  /-- cells; may they be written; of a row of a slice's elements: the cells of one (0: it is no such row) -/
  | cells (c : List Value) (own : Bool) (es : Nat)
  | dead
  | map (es : List MapEntry) (clock : Nat)
  | iter (m : Nat) (since : Nat) (seen : List Nat) (stepped : Nat)
  | loop (st : LoopState) (pending : Option Code) (fr : Tr Value) (params : Array Tmp) (assign body : Code)
  | siter (s : ByteArray) (pos : Nat)

structure Hp where
  t : Tr ABlk
  n : Nat
  lo : Nat

def Hp.get (h : Hp) (k : Nat) : Option ABlk := h.t.get k
def Hp.push (h : Hp) (b : ABlk) : Hp := { h with t := h.t.set h.n b, n := h.n + 1 }
def Hp.put (h : Hp) (k : Nat) (b : ABlk) : Hp := { h with t := h.t.set k b, lo := min h.lo k }
def Hp.empty : Hp := ⟨.leaf, 0, 0⟩

/-- What one operation does to the heap. -/
inductive Eff where
  | none
  | new (b : ABlk)
  | put (k : Nat) (b : ABlk)
  | app (k : Nat) (b : ABlk)

def Hp.app (h : Hp) : Eff → Hp
  | .none => h
  | .new b => h.push b
  | .put k b => h.put k b
  | .app k b => (h.put k .dead).push b

/-! ### Values -/

/-- A value of one cell that names no memory. -/
def flat1 : Value → Bool
  | .bool _ | .int .. | .float .. | .string _ | .pointer none | .slice none 0 0 | .map none | .nilFunc | .nilIface => true
  | _ => false

def flat : Value → Bool
  | .agg cs => cs.toList.all flat1
  | .tuple vs => vs.toList.isEmpty
  | v => flat1 v

def oneCell : Value → Bool
  | .agg _ | .tuple _ => false
  | _ => true

def pureRun (P : Program) {α : Type} : Sem α → Option α
  | .pure a => some a
  | .program k => pureRun P (k P)
  | .mark _ k => pureRun P k
  | _ => none

/-- What is asked of a type. -/
structure TyR where
  und : TypeDesc
  size : Nat
  bytes : Nat
  zero : Option Value
  agg : Bool
  /-- of a struct's fields: where each lies, and how many cells it has -/
  flds : List (Nat × Nat)
  /-- of an array or a slice: the cells of an element -/
  esz : Nat

/-- The program, and its tables for a quick look-up. -/
structure Tab where
  P : Program
  ty : Tr TyR
  fn : Tr Func

def ptr (k o : Nat) : Value := .pointer (some ⟨k, o, none⟩)

def splice (cs vs : List Value) (o : Nat) : List Value := cs.take o ++ vs ++ cs.drop (o + vs.length)

/-- n cells from o on, if they are there. -/
def cut (cs : List Value) (o n : Nat) : Option (List Value) := bif Nat.ble (o + n) cs.length then some ((cs.drop o).take n) else none

def fillZero (zero : List Value) (n : Nat) : List Value := (List.range n).map fun i => zero.getD (i % zero.length) undef

def natOf : Value → Option Nat
  | .int _ n => bif decide (n < 0) then none else some n.toNat
  | _ => none

def intOf? : Value → Option Int
  | .int _ n => some n
  | _ => none

def addr? : Value → Option (Nat × Nat)
  | .pointer (some ⟨k, o, none⟩) => some (k, o)
  | _ => none

def cells? : Option ABlk → Option (List Value × Bool × Nat)
  | some (.cells cs own es) => some (cs, own, es)
  | _ => none

def map? : Option ABlk → Option (List MapEntry × Nat)
  | some (.map es c) => some (es, c)
  | _ => none

def elem? (T : Tab) (t : TypeId) : Option TyR :=
  match T.ty.get t with
  | some ⟨.slice e, _, _, _, _, _, _⟩ => T.ty.get e
  | _ => none

/-- The cells of a slice's first n elements. -/
def rowCells (g : Nat → Option ABlk) (size : Nat) : Value → Option (List Value)
  | .slice none 0 _ => some []
  | .slice (some ⟨k, o, none⟩) n _ => match cells? (g k) with
    | some (cs, _, _) => cut cs o (n * size)
    | none => bif Nat.beq n 0 then some [] else none
  | _ => none

def lenA : Value → Option Nat
  | .slice _ n _ => some n
  | _ => none

def zeroFits (inf : TyR) : Bool :=
  match inf.zero with
  | some z => Nat.beq z.cells.toList.length inf.size && Nat.ble 1 inf.size && z.cells.toList.all flat1
  | none => false

def appendB (n : Nat) (inf : TyR) (base : Option Addr) (ln cp m : Nat) (old new : List Value) (g : Nat → Option ABlk) : Option (Value × Eff) :=
  bif Nat.beq cp ln then some (.slice (some ⟨n, 0, none⟩) (ln + m) (ln + m + 1), .new (.cells (old ++ new) true inf.size))
  else match base with
    | some ⟨k, 0, none⟩ =>
      match cells? (g k) with
      | some (cs, own, es) =>
        bif own && Nat.beq cp (ln + 1) && Nat.beq cs.length (ln * inf.size) && Nat.beq es inf.size then
          some (.slice (some ⟨n, 0, none⟩) (ln + m) (ln + m + 1), .app k (.cells (old ++ new) true inf.size))
        else none
      | none => none
    | _ => none

def appendA (T : Tab) (n : Nat) (ty : TypeId) (s x : Value) (g : Nat → Option ABlk) : Option (Value × Eff) :=
  match elem? T ty with
  | some inf =>
    match s with
    | .slice base ln cp =>
      match lenA x, rowCells g inf.size s, rowCells g inf.size x with
      | some m, some old, some new =>
        bif Nat.ble ((ln + m) * inf.bytes) 140737488355328 && Nat.ble (ln + m) 9223372036854775807 && new.all oneCell && zeroFits inf then
          bif Nat.beq m 0 then some (s, .none) else appendB n inf base ln cp m old new g
        else none
      | _, _, _ => none
    | _ => none
  | none => none

def optNat (d : Nat) : Option Value → Option Nat
  | some v => natOf v
  | none => some d

def sliceA (T : Tab) (t : TypeId) (x : Value) (lo hi : Option Value) : Option Value :=
  match elem? T t with
  | some inf =>
    match x with
    | .slice base len cp =>
      match optNat 0 lo, optNat len hi with
      | some l, some h =>
        bif Nat.ble l h && Nat.ble h len && Nat.ble 1 inf.size then
          match base with
          | some ⟨k, o, none⟩ => some (.slice (some ⟨k, o + l * inf.size, none⟩) (h - l) (bif Nat.beq h len && Nat.beq cp len then h - l else h - l + 2))
          | none => bif Nat.beq len 0 && Nat.beq cp 0 then some (.slice none 0 0) else none
          | _ => none
        else none
      | _, _ => none
    | _ => none
  | none => none

def makeSliceA (T : Tab) (n : Nat) (t : TypeId) (ln cp : Value) : Option (Value × Eff) :=
  match elem? T t with
  | some inf =>
    match natOf ln, natOf cp with
    | some l, some c =>
      bif Nat.ble l c && Nat.ble (inf.bytes * c) 140737488355328 && Nat.ble c 9223372036854775807 && zeroFits inf then
        some (.slice (some ⟨n, 0, none⟩) l (bif Nat.beq l c then l else l + 1), .new (.cells (fillZero ((inf.zero.map fun z => z.cells.toList).getD []) (l * inf.size)) true inf.size))
      else none
    | _, _ => none
  | none => none

def mapTy (T : Tab) (t : TypeId) : Option (TypeId × Option Value) :=
  match T.ty.get t with
  | some ⟨.map k e, _, _, _, _, _, _⟩ => some (k, (T.ty.get e).bind (·.zero))
  | _ => none

def blkOf : Value → Option Nat
  | .map (some r) => some r
  | _ => none

/-- Where a key stands among a map's entries. -/
def findA (P : Program) (emp : Bool) (kt : TypeId) (k : Value) (es : List MapEntry) : Option (Option Nat) :=
  bif flat k && es.all (fun e => flat e.key) then
    match pureRun P (Instr.checkKey emp 10000 kt k) with
    | some _ => (pureRun P (Instr.findKey kt k (es.map fun e => { e with val := .nilIface }))).map fun r => r.map (·.1)
    | none => none
  else none

def lookupB (T : Tab) (kt : TypeId) (zero : Option Value) (es : List MapEntry) (k : Value) (ok : Bool) : Option Value :=
  match findA T.P es.isEmpty kt k es, zero with
  | some (some i), some _ => (es[i]?).map fun e => bif ok then .tuple #[e.val, .bool true] else e.val
  | some none, some z => bif flat z then some (bif ok then .tuple #[z, .bool false] else z) else none
  | _, _ => none

def lookupA (T : Tab) (t : TypeId) (m k : Value) (ok : Bool) (g : Nat → Option ABlk) : Option Value :=
  match mapTy T t, (blkOf m).bind fun r => map? (g r) with
  | some (kt, z), some (es, _) => lookupB T kt z es k ok
  | _, _ => none

def mapEntryB (T : Tab) (kt : TypeId) (zero : Option Value) (r : Nat) (es : List MapEntry) (clock : Nat) (k : Value) : Option (Value × Eff) :=
  match findA T.P false kt k es, zero with
  | some (some i), _ =>
    match es[i]? with
    | some e => bif Instr.sameBits 10000 e.key k then some (.tuple #[e.val, .int .i64 e.born], .put r (.map (es.modify i fun e => { e with key := k }) clock)) else none
    | none => none
  | some none, some z => bif flat z then some (.tuple #[z, .int .i64 clock], .put r (.map (es ++ [{ key := k, val := z, born := clock }]) (clock + 1))) else none
  | _, _ => none

def mapEntryA (T : Tab) (t : TypeId) (m k : Value) (g : Nat → Option ABlk) : Option (Value × Eff) :=
  match mapTy T t, blkOf m with
  | some (kt, z), some r =>
    match map? (g r) with
    | some (es, clock) => mapEntryB T kt z r es clock k
    | none => none
  | _, _ => none

def entryStoreA (m s v : Value) (g : Nat → Option ABlk) : Option Eff :=
  match blkOf m, intOf? s with
  | some r, some born =>
    match map? (g r) with
    | some (es, clock) =>
      match es.findIdx? (fun e => (e.born : Int) == born) with
      | some i => some (.put r (.map (es.modify i fun e => { e with val := v }) clock))
      | none => none
    | none => none
  | _, _ => none

def mapUpdateB (T : Tab) (kt : TypeId) (r : Nat) (es : List MapEntry) (clock : Nat) (k v : Value) : Option Eff :=
  match findA T.P false kt k es with
  | some (some i) =>
    match es[i]? with
    | some e => bif Instr.sameBits 10000 e.key k then some (.put r (.map (es.modify i fun e => { e with key := k, val := v }) clock)) else none
    | none => none
  | some none => some (.put r (.map (es ++ [{ key := k, val := v, born := clock }]) (clock + 1)))
  | none => none

def mapUpdateA (T : Tab) (t : TypeId) (m k v : Value) (g : Nat → Option ABlk) : Option Eff :=
  match mapTy T t, blkOf m with
  | some (kt, _), some r =>
    match map? (g r) with
    | some (es, clock) => mapUpdateB T kt r es clock k v
    | none => none
  | _, _ => none

/-- All that the next step of an iterator over a map can give. -/
def nextB (r m since : Nat) (seen : List Nat) (last : Nat) (es : List MapEntry) (clock : Nat) : Option (List (Value × Eff)) :=
  bif !seen.isEmpty && !es.isEmpty && es.all (fun e => Nat.ble last e.born) then none else
  let left := es.filter fun e => !seen.contains e.born
  let old := left.filter (fun e => decide (e.born < since))
  let new := left.filter (fun e => decide (e.born ≥ since))
  let take := (old ++ new).map fun e => (Value.tuple #[.bool true, e.key, e.val], Eff.put r (.iter m since (seen ++ [e.born]) clock))
  some ((bif old.isEmpty then [(Value.tuple #[.bool false], Eff.none)] else []) ++ take)

def nextA (it : Value) (g : Nat → Option ABlk) : Option (List (Value × Eff)) :=
  match it with
  | .pointer (some ⟨r, 0, none⟩) =>
    match g r with
    | some (.iter m since seen last) =>
      match map? (g m) with
      | some (es, clock) => nextB r m since seen last es clock
      | none => none
    | _ => none
  | _ => none

def pureV (o : Option Value) : Option (Value × Eff) :=
  match o with
  | some v => bif flat v then some (v, .none) else none
  | none => none

def allocA (T : Tab) (n : Nat) (t : TypeId) : Option (Value × Eff) :=
  match T.ty.get t with
  | some ⟨_, _, _, some z, _, _, _⟩ => bif z.cells.toList.all flat1 then some (ptr n 0, .new (.cells z.cells.toList true 0)) else none
  | _ => none

def boxA (n : Nat) (v : Value) : Option (Value × Eff) :=
  bif v.cells.toList.all oneCell then some (ptr n 0, .new (.cells v.cells.toList true 0)) else none

/-- The parts of an aggregate, laid over its zero value. -/
def fillA (place : Nat → Option (Nat × Nat)) (cells : List Value) : List (Nat × Value) → Option (List Value)
  | [] => some cells
  | (i, v) :: rest =>
    match place i with
    | none => none
    | some (off, size) =>
      bif Nat.beq v.cells.toList.length size && Nat.ble (off + size) cells.length then fillA place (splice cells v.cells.toList off) rest else none

def buildPlace (und : TypeDesc) (flds : List (Nat × Nat)) (esz i : Nat) : Option (Nat × Nat) :=
  match und with
  | .struct _ => flds[i]?
  | .array .. => some (i * esz, esz)
  | _ => none

def buildA (T : Tab) (t : TypeId) (parts : List (Nat × Value)) : Option (Value × Eff) :=
  match T.ty.get t with
  | some ⟨und, _, _, some z, true, flds, esz⟩ =>
    bif z.cells.toList.all flat1 then (fillA (buildPlace und flds esz) z.cells.toList parts).map fun c => (.agg c.toArray, .none) else none
  | _ => none

def buildSliceA (T : Tab) (n : Nat) (t : TypeId) (len : Nat) (parts : List (Nat × Value)) : Option (Value × Eff) :=
  match elem? T t with
  | some inf =>
    bif Nat.ble (len * inf.size) 65536 && zeroFits inf then
      match fillA (fun i => some (i * inf.size, inf.size)) (fillZero ((inf.zero.map fun z => z.cells.toList).getD []) (len * inf.size)) parts with
      | some cells => some (.slice (some ⟨n, 0, none⟩) len len, .new (.cells cells true inf.size))
      | none => none
    else none
  | none => none

def loadA (T : Tab) (t : TypeId) (a : Value) (g : Nat → Option ABlk) : Option (Value × Eff) :=
  match addr? a with
  | some (k, o) =>
    match cells? (g k), T.ty.get t with
    | some (cs, _, _), some ⟨_, s, _, _, agg, _, _⟩ => bif agg then (cut cs o s).map fun c => (.agg c.toArray, .none) else (cs[o]?).map fun v => (v, .none)
    | _, _ => none
  | none => none

def storeA (T : Tab) (t : TypeId) (a v : Value) (g : Nat → Option ABlk) : Option (Value × Eff) :=
  match addr? a with
  | some (k, o) =>
    match cells? (g k), T.ty.get t with
    | some (cs, own, es), some ⟨_, s, _, _, _, _, _⟩ =>
      bif own && Nat.beq v.cells.toList.length s && Nat.ble (o + s) cs.length && v.cells.toList.all oneCell then some (undef, .put k (.cells (splice cs v.cells.toList o) true es)) else none
    | _, _ => none
  | none => none

def fieldAddrA (T : Tab) (t : TypeId) (a : Value) (i : Nat) : Option (Value × Eff) :=
  match addr? a, T.ty.get t with
  | some (k, o), some ⟨.struct _, _, _, _, _, flds, _⟩ =>
    match flds[i]? with
    | some (off, s) => bif Nat.ble 1 s then some (ptr k (o + off), .none) else none
    | none => none
  | _, _ => none

/-! Comparisons and sums that the kernel reckons quickly. -/

def leI : Int → Int → Bool
  | .ofNat a, .ofNat b => Nat.ble a b
  | .negSucc _, .ofNat _ => true
  | .ofNat _, .negSucc _ => false
  | .negSucc a, .negSucc b => Nat.ble b a

def ltI (a b : Int) : Bool := !leI b a

def eqI : Int → Int → Bool
  | .ofNat a, .ofNat b => Nat.beq a b
  | .negSucc a, .negSucc b => Nat.beq a b
  | _, _ => false

def inI64 (c : Int) : Bool := leI (.negSucc 9223372036854775807) c && leI c (.ofNat 9223372036854775807)

def idxA (esz k o len : Nat) (j : Int) : Option (Value × Eff) :=
  bif leI 0 j && ltI j (.ofNat len) then some (ptr k (o + j.toNat * esz), .none) else none

def indexAddrA (T : Tab) (t : TypeId) (a ix : Value) : Option (Value × Eff) :=
  match intOf? ix, T.ty.get t with
  | some j, some ⟨.array len _, _, _, _, _, _, esz⟩ => match addr? a with
    | some (k, o) => idxA esz k o len j
    | none => none
  | some j, some ⟨.slice _, _, _, _, _, _, esz⟩ => match a with
    | .slice (some ⟨k, o, none⟩) len _ => idxA esz k o len j
    | _ => none
  | _, _ => none

def flatV {α : Type} (ok : Bool) (o : Option α) : Option α := bif ok then o else none

def wrapOk (c : Int) : Option Value := bif inI64 c then some (.int .i64 c) else none

def fastBin (o : BinOp) (x y : Int) : Option Value :=
  match o with
  | .add => wrapOk (Int.add x y)
  | .sub => wrapOk (Int.sub x y)
  | .mul => wrapOk (Int.mul x y)
  | .eql => some (.bool (eqI x y))
  | .neq => some (.bool (!eqI x y))
  | .lss => some (.bool (ltI x y))
  | .leq => some (.bool (leI x y))
  | .gtr => some (.bool (ltI y x))
  | .geq => some (.bool (leI y x))
  | _ => none

def slowBin (P : Program) (o : BinOp) (t : TypeId) (x y : Operand) (a b : Value) : Option (Value × Eff) :=
  bif flat a && flat b then pureV (pureRun P (do eqGuard o t x y a b; binOp o t a b)) else none

def binA (P : Program) (o : BinOp) (t : TypeId) (x y : Operand) (a b : Value) : Option (Value × Eff) :=
  match a, b with
  | .int .i64 m, .int .i64 n => match fastBin o m n with
    | some v => some (v, .none)
    | none => slowBin P o t x y a b
  | _, _ => slowBin P o t x y a b

def minA (P : Program) (args : List Value) : Option (Value × Eff) :=
  match args with
  | [.int .i64 x, .int .i64 y] => some (.int .i64 (bif ltI y x then y else x), .none)
  | _ => bif args.all flat then pureV (pureRun P (Builtin.min_ #[] 0 args.toArray)) else none

def maxA (P : Program) (args : List Value) : Option (Value × Eff) :=
  match args with
  | [.int .i64 x, .int .i64 y] => some (.int .i64 (bif ltI x y then y else x), .none)
  | _ => bif args.all flat then pureV (pureRun P (Builtin.max_ #[] 0 args.toArray)) else none

def extractA (x : Value) (i : Nat) : Option (Value × Eff) :=
  match x with
  | .tuple vs => (vs.toList[i]?).map fun v => (v, .none)
  | _ => none

def rangeA (T : Tab) (n : Nat) (t : TypeId) (x : Value) (g : Nat → Option ABlk) : Option (Value × Eff) :=
  match T.ty.get t, x with
  | some ⟨.map .., _, _, _, _, _, _⟩, .map (some m) => match map? (g m) with
    | some (_, clock) => some (ptr n 0, .new (.iter m clock [] clock))
    | none => none
  | some ⟨.string, _, _, _, _, _, _⟩, .string s => some (ptr n 0, .new (.siter s 0))
  | _, _ => none

def nextStrA (it : Value) (g : Nat → Option ABlk) : Option (Value × Eff) :=
  match addr? it with
  | some (r, 0) => match g r with
    | some (.siter s pos) => bif Nat.blt pos s.data.toList.length then
        some (.tuple #[.bool true, .int .i64 pos, .int .i32 (Utf8.decode s pos).1], .put r (.siter s (pos + (Utf8.decode s pos).2)))
      else some (.tuple #[.bool false], .none)
    | _ => none
  | _ => none

def entryA (it : Value) (g : Nat → Option ABlk) : Option (Value × Eff) :=
  match addr? it with
  | some (r, 0) => match g r with
    | some (.iter m _ seen stepped) => match seen.getLast?, map? (g m) with
      | some stamp, some (es, clock) => bif Nat.beq clock stepped then (es.find? (·.born == stamp)).map fun e => (.tuple #[e.key, e.val], .none) else none
      | _, _ => none
    | _ => none
  | _ => none

def lenOpA (T : Tab) (t : TypeId) (x : Value) (g : Nat → Option ABlk) : Option (Value × Eff) :=
  match T.ty.get t, x with
  | some ⟨.slice _, _, _, _, _, _, _⟩, .slice _ m _ => some (.int .i64 m, .none)
  | some ⟨.map .., _, _, _, _, _, _⟩, .map (some r) => match map? (g r) with
    | some (es, _) => some (.int .i64 es.length, .none)
    | none => none
  | some ⟨.array n _, _, _, _, _, _, _⟩, _ => some (.int .i64 n, .none)
  | some ⟨.string, _, _, _, _, _, _⟩, .string s => some (.int .i64 s.data.toList.length, .none)
  | _, _ => none

def builtinA (T : Tab) (n : Nat) (b : Builtin) (args : List Value) (tys : List TypeId) (g : Nat → Option ABlk) : Option (Value × Eff) :=
  match b with
  | .len => match args, tys with
    | [x], [t] => lenOpA T t x g
    | _, _ => none
  | .min => minA T.P args
  | .max => maxA T.P args
  | .append => match args, tys with
    | [s, x], [t, u] => match T.ty.get u with
      | some ⟨.slice _, _, _, _, _, _, _⟩ => appendA T n t s x g
      | _ => none
    | _, _ => none
  | _ => none

def callA (T : Tab) (n : Nat) (c : Call) (ρ : Operand → Value) (g : Nat → Option ABlk) : Option (Value × Eff) :=
  match c.callee with
  | .builtin b => builtinA T n b (c.args.toList.map ρ) c.argTypes.toList g
  | _ => none

def pickA (c a b : Value) : Option (Value × Eff) :=
  match c with
  | .bool t => some (bif t then a else b, .none)
  | _ => none

def sliceOpA (T : Tab) (t : TypeId) (x : Value) (lo hi : Option Value) : Option (Value × Eff) :=
  match x with
  | .string _ => bif lo.toList.all flat && hi.toList.all flat then pureV (pureRun T.P (Instr.sliceAt t x lo hi none)) else none
  | _ => (sliceA T t x lo hi).map fun v => (v, .none)

def nilCheckA (x : Value) : Option (Value × Eff) :=
  match x with
  | .pointer (some a) => some (.pointer (some a), .none)
  | _ => none

def makeFuncA (fn : Fn) (first captured : List Value) : Option (Value × Eff) :=
  match fn with
  | .func f => some (.func (.func f) first.toArray captured.toArray, .none)
  | _ => none

/-- One operation that calls no function of the program's: its value and what it does to the heap. n: the number of a new block. -/
def opA (T : Tab) (n : Nat) (op : Op) (ρ : Operand → Value) (g : Nat → Option ABlk) : Option (Value × Eff) :=
  match op with
  | .move x => some (ρ x, .none)
  | .assign x => some (ρ x, .none)
  | .pick c a b => pickA (ρ c) (ρ a) (ρ b)
  | .alloc t => allocA T n t
  | .box _ x => boxA n (ρ x)
  | .build t parts => buildA T t (parts.toList.map fun (i, x) => (i, ρ x))
  | .buildSlice t len parts => buildSliceA T n t len (parts.toList.map fun (i, x) => (i, ρ x))
  | .load t a => loadA T t (ρ a) g
  | .store t a x => storeA T t (ρ a) (ρ x) g
  | .fieldAddr t a i => fieldAddrA T t (ρ a) i
  | .indexAddr t a ix => indexAddrA T t (ρ a) (ρ ix)
  | .index t a ix => bif flat (ρ a) && flat (ρ ix) then pureV (pureRun T.P (Instr.index t (ρ a) (ρ ix))) else none
  | .field t a i => bif flat (ρ a) then pureV (pureRun T.P (Instr.field t (ρ a) i)) else none
  | .binOp o t x y _ => binA T.P o t x y (ρ x) (ρ y)
  | .unOp o _ x => bif flat (ρ x) then pureV (pureRun T.P (Op.unary o (ρ x))) else none
  | .convert s d x => bif flat (ρ x) then pureV (pureRun T.P (convert s d (ρ x))) else none
  | .extract x i => extractA (ρ x) i
  | .makeFunc fn first captured => makeFuncA fn (first.toList.map ρ) (captured.toList.map ρ)
  | .nilCheck x => nilCheckA (ρ x)
  | .slice t x lo hi none => sliceOpA T t (ρ x) (lo.map ρ) (hi.map ρ)
  | .makeSlice t l c => makeSliceA T n t (ρ l) (ρ c)
  | .makeMap _ none => some (.map (some n), .new (.map [] 0))
  | .lookup t m k ok => (lookupA T t (ρ m) (ρ k) ok g).map fun v => (v, .none)
  | .mapEntry t m k => mapEntryA T t (ρ m) (ρ k) g
  | .entryStore _ m s v => (entryStoreA (ρ m) (ρ s) (ρ v) g).map fun e => (undef, e)
  | .mapUpdate t m k v => (mapUpdateA T t (ρ m) (ρ k) (ρ v) g).map fun e => (undef, e)
  | .range t x => rangeA T n t (ρ x) g
  | .next it true => nextStrA (ρ it) g
  | .entry it => entryA (ρ it) g
  | .call c => callA T n c ρ g
  | _ => none

/-! ### Code -/

structure St where
  fr : Tr Value
  hp : Hp
  /-- is this a round of a range over a function -/
  rd : Bool

def evalA (fr : Tr Value) : Operand → Value
  | .tmp t => (fr.get t).getD undef
  | .const v => v
  | .global g => .pointer (some ⟨g, 0, none⟩)
  | .func f => .func (.func f) #[] #[]

/-- An operand that names no memory by itself. -/
def opdOk : Operand → Bool
  | .tmp _ | .func _ => true
  | .const v => flat v
  | .global _ => false

/-- What an operation waits for, as bits: by its binding edges, and by theirs. -/
def preds (acc : List Nat) (l : List Edge) : Nat := l.foldr (fun e s => cond (Region.binds .any e) (s ||| 2 ^ e.on ||| acc.getD e.on 0) s) 0

def befL : List Oper → List Nat → List Nat
  | [], acc => acc
  | o :: l, acc => befL l (acc ++ [preds acc o.after.toList])

def bef (ops : Array Oper) : List Nat := befL ops.toList []

/-- Of two operations that name one temporary the later waits for the earlier. -/
def sepOk (ops : Array Oper) (b : List Nat) : List (Oper × Nat) → Bool
  | [] => true
  | (x, i) :: l => l.all (fun (y, j) => x.apart ops y || (b.getD j 0).testBit i) && sepOk ops b l

/-- Of a region whose order is open: edges go back; what names one temporary is ordered. -/
def drawCode (ops : Array Oper) : Bool :=
  sepOk ops (bef ops) ops.toList.zipIdx && ops.toList.zipIdx.all fun (o, i) => o.after.toList.all fun e => !Region.binds .any e || decide (e.on < i)

/-- All operands of some code are such; what it writes are temporaries below n. -/
def codeOk (n : Nat) : Code → Bool
  | .region _ ops draw => (!draw || drawCode ops) && ops.toList.all fun o => o.op.operands.toList.all opdOk && (match o.dst with | some d => Nat.blt d n | none => true)
  | .seq a b => codeOk n a && codeOk n b
  | .cond c a b => opdOk c && codeOk n a && codeOk n b
  | .block _ c | .loop c | .scope c => codeOk n c
  | .rangeFunc f ps a b => opdOk f && ps.toList.all (Nat.blt · n) && codeOk n a && codeOk n b
  | _ => true

inductive Job where
  | call (f : FuncId) (args : List Value) (hp : Hp)
  | round (l : Nat) (args : List Value) (hp : Hp)
  | loop (c : Code) (st : St)

inductive Res where
  | ret (v : Value) (hp : Hp)
  | out (e : Exit) (st : St)

def bindL {α β : Type} (l : List α) (f : α → Option (List β)) : Option (List β) :=
  List.rec (motive := fun _ => Option (List β)) (some []) (fun a t ih => match t with
    | [] => f a
    | _ :: _ => match f a with
      | some x => ih.map (x ++ ·)
      | none => none) l

def putA (fr : Tr Value) : Option Tmp → Value → Tr Value
  | some d, v => fr.set d v
  | none, _ => fr

/-- What a function value leads to, with all its arguments. -/
inductive Goal where
  | fn (f : FuncId) (args : List Value)
  | yield (l : Nat) (args : List Value)

def goalOf (v : Value) (args : List Value) : Option Goal :=
  match v with
  | .func (.func f) first captured => some (.fn f (first.toList ++ args ++ captured.toList))
  | .func (.yield l) first _ => some (.yield l (first.toList ++ args))
  | _ => none

inductive Kind where
  | call (f : Operand) (args : List Operand)
  | next (it : Operand)
  | plain

def kindOf (o : Op) : Kind :=
  match o with
  | .call ⟨.value f, args, _⟩ => .call f args.toList
  | .next it false => .next it
  | _ => .plain

def jobOf (H : Hp) : Goal → Job
  | .fn f args => .call f args H
  | .yield l args => .round l args H

def valOf : Res → Option (List (Value × Hp))
  | .ret v hp => some [(v, hp)]
  | .out .. => none

section
variable (T : Tab) (rec : Job → Option (List Res))

/-- One operation, whatever it is: all the values that it can have, each with the heap behind it. -/
def anyOp (o : Op) (st : St) : Option (List (Value × Hp)) :=
  match kindOf o with
  | .call f args =>
    match goalOf (evalA st.fr f) (args.map (evalA st.fr)) with
    | some g => match rec (jobOf st.hp g) with
      | some L => bindL L valOf
      | none => none
    | none => none
  | .next it => (nextA (evalA st.fr it) st.hp.get).map fun L => L.map fun (v, e) => (v, st.hp.app e)
  | .plain => match opA T st.hp.n o (evalA st.fr) st.hp.get with
    | some (v, e) => some [(v, st.hp.app e)]
    | none => none

def guardA (ops : List Oper) (fr : Tr Value) : Option (Nat × Bool) → Bool
  | none => true
  | some (j, want) => match ops[j]? with
    | some ⟨some d, _, _, _, _, _⟩ => match fr.get d with
      | some (.bool b) => b == want
      | _ => false
    | _ => false

def execOps (ops : List Oper) (l : List Oper) : St → Option (List St) :=
  List.rec (motive := fun _ => St → Option (List St)) (fun st => some [st])
    (fun o _ ih st => cond (guardA ops st.fr o.guard)
      (match anyOp T rec o.op st with
        | some L => bindL L fun p => ih ⟨putA st.fr o.dst p.1, p.2, st.rd⟩
        | none => none)
      (ih ⟨putA st.fr o.dst undef, st.hp, st.rd⟩)) l

/-! A region whose order is open: it is gone through in the order of the text, and what each operation touches is noted. -/

structure Tc where
  idx : Nat
  rd : List Nat
  wr : List Nat
  call : Bool
  /-- the blocks that it lays -/
  a : Nat
  b : Nat

def blkN : Value → List Nat
  | .pointer (some ⟨k, _, _⟩) => [k]
  | .slice (some ⟨k, _, _⟩) _ _ => [k]
  | .map (some k) => [k]
  | _ => []

/-- The blocks that an operation reads, and those that it writes; none: an operation that such a region may not hold. -/
def touch (o : Op) (ρ : Operand → Value) : Option (List Nat × List Nat) :=
  match o with
  | .load _ a => some (blkN (ρ a), [])
  | .store _ a _ => some ([], blkN (ρ a))
  | .lookup _ m _ _ => some (blkN (ρ m), [])
  | .mapEntry _ m _ => some ([], blkN (ρ m))
  | .entryStore _ m _ _ => some ([], blkN (ρ m))
  | .mapUpdate _ m _ _ => some ([], blkN (ρ m))
  | .range .. | .next .. | .entry _ => none
  | .call ⟨.builtin .append, args, _⟩ => match args.toList.map ρ with
    | [s, x] => some (blkN x, blkN s)
    | _ => none
  | .call ⟨.builtin .len, args, _⟩ => match args.toList.map ρ with
    | [x] => some (blkN x, [])
    | _ => none
  | _ => some ([], [])

def meets (a b : List Nat) : Bool := a.any fun x => b.any fun y => Nat.beq x y

def within (a b : Nat) (l : List Nat) : Bool := l.any fun k => Nat.ble a k && Nat.blt k b

def conflict (s t : Tc) : Bool :=
  meets s.wr t.rd || meets s.wr t.wr || meets t.wr s.rd || (s.call && !t.wr.isEmpty) || (t.call && !s.wr.isEmpty) ||
    within s.a s.b t.rd || within s.a s.b t.wr || within t.a t.b s.rd || within t.a t.b s.wr

/-- One operation of the text's order, as it went. -/
structure Ev where
  o : Oper
  st : St
  v : Value
  hp : Hp
  t : Tc

def beqBytes : List UInt8 → List UInt8 → Bool
  | [], [] => true
  | a :: l, b :: m => Nat.beq a.toNat b.toNat && beqBytes l m
  | _, _ => false

/-- Two values that name no memory. -/
def beqF : Value → Value → Bool
  | .bool a, .bool b => a == b
  | .int k a, .int l b => (k == l) && eqI a b
  | .string s, .string t => beqBytes s.data.toList t.data.toList
  | .pointer none, .pointer none => true
  | .slice none 0 0, .slice none 0 0 => true
  | .map none, .map none => true
  | .nilFunc, .nilFunc => true
  | .nilIface, .nilIface => true
  | _, _ => false

/-- The first only reads one block, and would read the same behind the second. -/
def spare (ev ev' : Ev) : Bool :=
  match ev.t.rd, ev.t.wr with
  | [_], [] => Nat.beq ev.t.a ev.t.b && !ev.t.call && !ev'.t.call &&
      (match opA T ev.st.hp.n ev.o.op (evalA ev.st.fr) ev'.hp.get with
        | some (v, .none) => beqF v ev.v
        | _ => false)
  | _, _ => false

/-- Of two operations that one must not swap the later waits for the earlier. -/
def pairsOk (b : List Nat) : List Ev → Bool
  | [] => true
  | t :: l => l.all (fun s => !conflict s.t t.t || (b.getD t.t.idx 0).testBit s.t.idx || spare T s t) && pairsOk b l

def drawOk (ops : Array Oper) (acc : List Ev) : Bool :=
  bif acc.all (fun e => e.t.wr.isEmpty && Nat.beq e.t.a e.t.b) then true else pairsOk T (bef ops) acc

def drawOp (o : Op) (i : Nat) (st : St) : Option (Value × Hp × Tc) :=
  match kindOf o with
  | .call f args =>
    match goalOf (evalA st.fr f) (args.map (evalA st.fr)) with
    | some g => match rec (jobOf { st.hp with lo := st.hp.n } g) with
      | some [.ret v hp] => bif Nat.ble st.hp.n hp.lo then some (v, { hp with lo := st.hp.lo }, ⟨i, [], [], true, st.hp.n, hp.n⟩) else none
      | _ => none
    | none => none
  | .next _ => none
  | .plain => match touch o (evalA st.fr), opA T st.hp.n o (evalA st.fr) st.hp.get with
    | some (r, w), some (v, e) => some (v, st.hp.app e, ⟨i, r, w, false, st.hp.n, (st.hp.app e).n⟩)
    | _, _ => none

def execDraw (ops : Array Oper) (l : List Oper) : Nat → St → List Ev → Option (List St) :=
  List.rec (motive := fun _ => Nat → St → List Ev → Option (List St)) (fun _ st acc => cond (drawOk T ops acc) (some [st]) none)
    (fun o _ ih i st acc => cond (guardA ops.toList st.fr o.guard)
      (match drawOp T rec o.op i st with
        | some (v, hp, t) => ih (i + 1) ⟨putA st.fr o.dst v, hp, st.rd⟩ (⟨o, st, v, hp, t⟩ :: acc)
        | none => none)
      (ih (i + 1) ⟨putA st.fr o.dst undef, st.hp, st.rd⟩ (⟨o, st, undef, st.hp, ⟨i, [], [], false, st.hp.n, st.hp.n⟩⟩ :: acc))) l

def outOf : Res → Option (List (Exit × St))
  | .out e s => some [(e, s)]
  | .ret .. => none

def atBlock (id : Nat) (p : Exit × St) : Exit × St :=
  match p.1 with
  | .exit id' => (bif Nat.beq id' id then .normal else .exit id', p.2)
  | _ => p

/-- Behind the call of the function that was ranged over. -/
def endLoopA (l : Nat) (fr : Tr Value) : Res → Option (List (Exit × St))
  | .ret _ hp => match hp.get l with
    | some (.loop s pend fr0 ps as bd) =>
      let st : St := ⟨fr, hp.put l (.loop .exhausted pend fr0 ps as bd), false⟩
      match s, pend with
      | .busy, _ => none
      | _, none => some [(.normal, st)]
      | _, some .ret => some [(.ret, st)]
      | _, some (.exit id) => some [(.exit id, st)]
      | _, _ => none
    | _ => none
  | .out .. => none

def seqK (ihb : St → Option (List (Exit × St))) (p : Exit × St) : Option (List (Exit × St)) :=
  match p.1 with
  | .normal => ihb p.2
  | e => some [(e, p.2)]

def rangeA' (f : Operand) (params : Array Tmp) (assign body : Code) (st : St) : Option (List (Exit × St)) :=
  match st.rd, goalOf (evalA st.fr f) [.func (.yield st.hp.n) #[] #[]] with
  | false, some (.fn g args) => match rec (.call g args (st.hp.push (.loop .ready none st.fr params assign body))) with
    | some L => bindL L (endLoopA st.hp.n st.fr)
    | none => none
  | _, _ => none

def noGoto (p : Exit × St) : Bool :=
  match p.1 with
  | .goto _ => false
  | _ => true

/-- A scope that no jump to a label is met in. -/
def scopeK (o : Option (List (Exit × St))) : Option (List (Exit × St)) :=
  match o with
  | some L => cond (L.all noGoto) (some L) none
  | none => none

def execC (c : Code) : St → Option (List (Exit × St)) :=
  Code.rec (motive := fun _ => St → Option (List (Exit × St)))
    (fun st => some [(.normal, st)])
    (fun _ ops draw st => match cond draw (execDraw T rec ops ops.toList 0 st []) (execOps T rec ops.toList ops.toList st) with
      | some L => some (L.map fun s => (.normal, s))
      | none => none)
    (fun _ _ iha ihb st => match iha st with
      | some L => bindL L (seqK ihb)
      | none => none)
    (fun c _ _ iha ihb st => match evalA st.fr c with
      | .bool t => cond t (iha st) (ihb st)
      | _ => none)
    (fun id _ ih st => match ih st with
      | some L => some (L.map (atBlock id))
      | none => none)
    (fun c _ st => match rec (.loop c st) with
      | some L => bindL L outOf
      | none => none)
    (fun f params assign body _ _ st => rangeA' rec f params assign body st)
    (fun id st => some [(.exit id, st)])
    (fun _ ih st => scopeK (ih st))
    (fun _ st => some [(.normal, st)])
    (fun _ _ => none)
    (fun st => some [(.ret, st)])
    (fun _ _ => none) c

def setArgs : Tr Value → Nat → List Value → Tr Value
  | t, _, [] => t
  | t, i, v :: vs => setArgs (t.set i v) (i + 1) vs

def setParams (t : Tr Value) : List (Tmp × Value) → Tr Value
  | [] => t
  | (d, v) :: l => setParams (t.set d v) l

def resOf (fr : Tr Value) (hp : Hp) : ResultVar → Option Value
  | .tmp t => some ((fr.get t).getD undef)
  | .cell a t => (loadA T t ((fr.get a).getD undef) hp.get).map (·.1)

def resList (fr : Tr Value) (hp : Hp) : List ResultVar → Option (List Value)
  | [] => some []
  | r :: rs => match resOf T fr hp r with
    | some v => (resList fr hp rs).map (v :: ·)
    | none => none

def oneOrTuple : List Value → Value
  | [v] => v
  | vs => .tuple vs.toArray

def endCall (rs : List ResultVar) (p : Exit × St) : Option (List Res) :=
  match p.1 with
  | .normal | .ret => (resList T p.2.fr p.2.hp rs).map fun vs => [.ret (oneOrTuple vs) p.2.hp]
  | _ => none

def endRoundA (l : Nat) (p : Exit × St) : Option (List Res) :=
  match p.2.hp.get l with
  | some (.loop _ _ fr ps as bd) => match p.1 with
    | .normal => some [.ret (.bool true) (p.2.hp.put l (.loop .ready none fr ps as bd))]
    | .ret => some [.ret (.bool false) (p.2.hp.put l (.loop .done (some .ret) fr ps as bd))]
    | .exit id => some [.ret (.bool false) (p.2.hp.put l (.loop .done (some (.exit id)) fr ps as bd))]
    | _ => none
  | _ => none

def beginRoundA (l : Nat) (body : Code) (p : Exit × St) : Option (List Res) :=
  match p.1 with
  | .normal => match p.2.hp.get l with
    | some (.loop .ready pend fr ps as bd) =>
      match execC T rec body ⟨p.2.fr, p.2.hp.put l (.loop .busy pend fr ps as bd), true⟩ with
      | some L => bindL L (endRoundA l)
      | none => none
    | _ => none
  | _ => none

def nextRound (c : Code) (p : Exit × St) : Option (List Res) :=
  match p.1 with
  | .normal => rec (.loop c p.2)
  | e => some [.out e p.2]

def stepJ : Job → Option (List Res)
  | .call f args hp => match T.fn.get f with
    | some fn => match fn.body with
      | some c =>
        match execC T rec c ⟨setArgs .leaf 0 args, hp, false⟩ with
        | some L => bindL L (endCall T fn.results.toList)
        | none => none
      | none => none
    | none => none
  | .round l args hp => match hp.get l with
    | some (.loop .ready _ fr ps as bd) =>
      bif Nat.beq args.length ps.toList.length then
        match execC T rec as ⟨setParams fr (ps.toList.zip args), hp, true⟩ with
        | some L => bindL L (beginRoundA T rec l bd)
        | none => none
      else none
    | _ => none
  | .loop c st => match execC T rec c st with
    | some L => bindL L (nextRound rec c)
    | none => none
end

def run (T : Tab) (n : Nat) : Job → Option (List Res) :=
  Nat.rec (motive := fun _ => Job → Option (List Res)) (fun _ => none) (fun _ ih j => stepJ T ih j) n

end

end Go.RM
