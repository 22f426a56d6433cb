/- An abstract machine for the program's code: values without memory, boxes and rows of the call's own; what it does, told as propositions. -/
import Derived.Laws.OwnMore
import Derived.Orders
import Derived.Below
import Derived.Laws.BytesArg
import Derived.Laws.Entries
set_option linter.unusedVariables false
set_option linter.unusedSimpArgs false
namespace Go.Proofs.YtccldchklemogaaW.AM
open Go

/-- Values without memory. -/
inductive VV where
  | int (k : IntKind) (n : Int)
  | bool (b : Bool)
  | str (s : ByteArray)
  | agg (cs : List VV)
  | row (es : List VV)
instance : Inhabited VV := ⟨.bool false⟩

/-- What a slot holds, one thing. -/
inductive A0 where
  | val (v : VV)
  | ptr (id off : Nat)
  | nilp
  | ref (id g : Nat)
  | ep (id g i off : Nat)
  | vp (e : VV) (off : Nat)
  | fn (f : FuncId) (caps : List Nat)
  | nilrow
  | dead
  /-- A struct, held by an object without memory. -/
  | sp (id : Nat)

inductive AV where
  | one (a : A0)
  | tup (as : List A0)

/-- What lies in memory: a variable; a row of the call's own. -/
inductive Ob where
  | box (cs : List A0)
  | own (e : TypeId) (sz : Nat) (es : List VV) (g : Nat) (pin : Bool)
  | iter (s : ByteArray) (pos : Nat)
  | vbox (cs : List A0)
  | tree (e : TypeId) (sz : Nat) (es : List VV) (g : Nat)
  /-- A tree of which a row within (cell m) is an object of its own (j) for a while. -/
  | hole (e : TypeId) (sz : Nat) (es : List VV) (g : Nat) (i off j : Nat)
  | lost (g sz : Nat)

abbrev Fr := Nat → AV
abbrev Hp := Nat → Option Ob

structure TI where
  agg : Bool
  size : Nat
  bytes : Nat
  zero : List Value
  sl : Option TypeId
  flds : List (Nat × TypeId × Nat)
  knd : Option IntKind
  str : Bool
  bool : Bool

def mapO {α β : Type} (f : α → Option β) : List α → Option (List β)
  | [] => some []
  | a :: as => match f a, mapO f as with
    | some b, some bs => some (b :: bs)
    | _, _ => none
def fldsOf (P : Program) (fs : List Field) : Option (List (Nat × TypeId × Nat)) := mapO (fun f => (P.info? f.type).map fun i => (f.offset, f.type, i.size)) fs
def dAgg : TypeDesc → Bool | .struct _ | .array _ _ => true | _ => false
def dSl : TypeDesc → Option TypeId | .slice e => some e | _ => none
def dFl (P : Program) : TypeDesc → Option (List (Nat × TypeId × Nat)) | .struct fs => fldsOf P fs.toList | _ => some []
def dKnd : TypeDesc → Option IntKind | .int k => some k | _ => none
def dStr : TypeDesc → Bool | .string => true | _ => false
def dBool : TypeDesc → Bool | .bool => true | _ => false
def tiOf (P : Program) (t : TypeId) : Option TI :=
  match P.info? t, P.underlying t with
  | some i, some d =>
    match i.zero, dFl P d with
    | some z, some fl => some { agg := dAgg d, size := i.size, bytes := i.bytes, zero := z.cells.toList, sl := dSl d, flds := fl, knd := dKnd d, str := dStr d, bool := dBool d }
    | _, _ => none
  | _, _ => none

/-- What stands in every world: cells, and how many cells a block has. -/
structure Tab where
  c : Nat → Nat → Option Value := fun _ _ => none
  z : Nat → Option Nat := fun _ => none
  /-- What lies in the row that lies in a cell of a row's elements. -/
  ty : Nat → Nat → Nat := fun _ _ => 0
structure Env where
  P : Program
  ti : TypeId → Option TI
  fn : FuncId → Option Func
  hint : FuncId → Nat → Nat → Nat
  eff : FuncId → Bool
  cut : FuncId → Nat → Bool := fun _ _ => false
  /-- What is told of functions by other means. -/
  orc : FuncId → List A0 → List Ob → List A0 → List Ob → Prop := fun _ _ _ _ _ => False
  /-- Cells that stand in every world. -/
  tab : Tab := {}
  /-- What is done behind an operation (0: nothing; n + 1: the row that was lent is put back into the object n). -/
  post : FuncId → Nat → Nat → Nat := fun _ _ _ => 0
  /-- The boxes that looks and turns in any order are about (none: all). -/
  far : FuncId → Nat → List Nat := fun _ _ => []

structure Env.Ok (G : Env) : Prop where
  ti : ∀ t i, G.ti t = some i → tiOf G.P t = some i
  fn : ∀ f F, G.fn f = some F → G.P.funcs[f]? = some F
  name : ∀ f F, G.fn f = some F → (F.name == "runtime.NumGoroutine") = false ∧ F.body.isNone = false
  mixed : G.P.follows .mixedOrders = true

/-! ### constants and cells -/
def ofS : Value → Option VV
  | .int k n => some (.int k n)
  | .bool b => some (.bool b)
  | .string s => some (.str s)
  | .slice none 0 0 => some (.row [])
  | _ => none
def ofC (v : Value) : A0 :=
  match v with
  | .slice none 0 0 => .nilrow
  | .pointer none => .nilp
  | .agg cs => match mapO ofS cs.toList with | some l => .val (.agg l) | none => .dead
  | v => match ofS v with | some u => .val u | none => .dead
def ev (fr : Fr) : Operand → AV
  | .tmp t => fr t
  | .const v => .one (ofC v)
  | .func f => .one (.fn f [])
  | .global _ => .one .dead
def VV.cells : VV → List VV
  | .agg cs => cs
  | v => [v]
def A0.cells : A0 → List A0
  | .val (.agg cs) => cs.map .val
  | a => [a]
def A0.toVV : A0 → Option VV
  | .val v => some v
  | .nilrow => some (.row [])
  | _ => none
/-- Some cells of a row of cells, as a value of a type. -/
def partV (agg : Bool) (size off : Nat) (cs : List VV) : Option VV :=
  if agg then (if off + size ≤ cs.length then some (.agg ((cs.drop off).take size)) else none) else cs[off]?
def partA (agg : Bool) (size off : Nat) (cs : List A0) : Option A0 :=
  if agg then (if off + size ≤ cs.length then (mapO A0.toVV ((cs.drop off).take size)).map fun l => .val (.agg l) else none) else cs[off]?
def setAt {α : Type} (cs : List α) (off : Nat) (vs : List α) : List α := cs.take off ++ vs ++ cs.drop (off + vs.length)
def stE (u : VV) (off : Nat) (v : VV) : Option VV :=
  match u with
  | .agg cs => if off + v.cells.length ≤ cs.length then some (.agg (setAt cs off v.cells)) else none
  | _ => match off, v with
    | 0, .agg _ => none
    | 0, v => some v
    | _, _ => none
def fillV (place : Nat → Option (Nat × Nat)) (cs : List VV) : List (Nat × VV) → Option (List VV)
  | [] => some cs
  | (i, v) :: rest =>
    match place i with
    | none => none
    | some (off, size) => if v.cells.length ≠ size ∨ off + size > cs.length then none else fillV place (setAt cs off v.cells) rest
def upd (id : Nat) (o : Ob) (hp : Hp) : Hp := fun j => if j = id then some o else hp j
def put (d : Option Nat) (v : AV) (fr : Fr) : Fr := match d with | some d => fun t => bif Nat.beq t d then v else fr t | none => fr
def pid (rid i : Nat) : Nat := 16 + rid * 512 + i
def VV.ofInt (z : Int) : VV := .int .i64 z

/-! ### operations: what is asked, and what comes -/
section
variable (G : Env)

/-- Bits. -/
def bin2 (op : BinOp) (k k' : IntKind) (a b : Int) (K : VV → Prop) : Prop :=
  match op with
  | .and => k = k' ∧ ∃ z, Go.bits .and k a b = z ∧ K (.int k z)
  | .or => k = k' ∧ ∃ z, Go.bits .or k a b = z ∧ K (.int k z)
  | .xor => k = k' ∧ ∃ z, Go.bits .xor k a b = z ∧ K (.int k z)
  | .shr => 0 ≤ b ∧ ∃ z, a.fdiv (2 ^ (min b.toNat k.bits)) = z ∧ K (.int k z)
  | _ => False
def bin (op : BinOp) (t : TI) (x y : VV) (K : VV → Prop) : Prop :=
  match x, y with
  | .int k a, .int k' b =>
    match op with
    | .add => k = k' ∧ ∃ z, k.wrap (a + b) = z ∧ K (.int k z)
    | .sub => k = k' ∧ ∃ z, k.wrap (a - b) = z ∧ K (.int k z)
    | .mul => k = k' ∧ ∃ z, k.wrap (a * b) = z ∧ K (.int k z)
    | .quo => k = k' ∧ b ≠ 0 ∧ ∃ z, k.wrap (a.tdiv b) = z ∧ K (.int k z)
    | .rem => k = k' ∧ b ≠ 0 ∧ ∃ z, a.tmod b = z ∧ K (.int k z)
    | .eql => k = k' ∧ K (.bool (a == b))
    | .neq => k = k' ∧ K (.bool (a != b))
    | .lss => k = k' ∧ K (.bool (decide (a < b)))
    | .leq => k = k' ∧ K (.bool (decide (a ≤ b)))
    | .gtr => k = k' ∧ K (.bool (decide (a > b)))
    | .geq => k = k' ∧ K (.bool (decide (a ≥ b)))
    | o => bin2 o k k' a b K
  | .str a, .str b =>
    match op with
    | .add => ((a.size + b.size : Nat) : Int) ≤ IntKind.i64.max ∧ K (.str (a ++ b))
    | .eql => K (.bool (a.toList == b.toList))
    | .neq => K (.bool !(a.toList == b.toList))
    | .lss => K (.bool (Op.bytesLess a.toList b.toList))
    | .leq => K (.bool (Op.bytesLess a.toList b.toList || a.toList == b.toList))
    | .gtr => K (.bool !(Op.bytesLess a.toList b.toList || a.toList == b.toList))
    | .geq => K (.bool !Op.bytesLess a.toList b.toList)
    | _ => False
  | .bool a, .bool b =>
    t.bool = true ∧ match op with
    | .eql => K (.bool (a == b))
    | .neq => K (.bool !(a == b))
    | _ => False
  | _, _ => False

def SzOK (es : List VV) (n : Nat) : Prop := ∀ u ∈ es, u.cells.length = n
/-- The bounds of a cut: what lies between lo and hi. -/
def cutH (lo : Option VV) (K : Nat → Nat → Prop) (h : Nat) : Prop :=
  match lo with
  | none => K 0 h
  | some (.int _ a) => (0 ≤ a ∧ a ≤ (h : Int)) ∧ K a.toNat h
  | some _ => False
def cutB (len : Nat) (lo hi : Option VV) (K : Nat → Nat → Prop) : Prop :=
  match hi with
  | none => cutH lo K len
  | some (.int _ b) => (0 ≤ b ∧ b ≤ (len : Int)) ∧ cutH lo K b.toNat
  | some _ => False

abbrev KO := AV → Hp → Prop
def newOb (rid i : Nat) (o : Ob) (v : A0) (hp : Hp) (K : KO) : Prop := hp (pid rid i) = none ∧ K (.one v) (upd (pid rid i) o hp)
def optV (ρ : Operand → AV) : Option Operand → Option (Option VV)
  | none => some none
  | some x => match ρ x with | .one (.val v) => some (some v) | _ => none

/-- A row, under a name. -/
def named (r : List VV) (K : List VV → Prop) : Prop := ∃ q, r = q ∧ K q
theorem named_eq (r : List VV) (K : List VV → Prop) : named r K = K r := propext ⟨fun ⟨q, h, k⟩ => h ▸ k, fun k => ⟨r, rfl, k⟩⟩
/-- A nil row is told as a row of nothing, where it is asked for (3). -/
def wk (h : Nat) (a : A0) : A0 := match h with
  | 3 => match a with
    | .nilrow => .val (.row [])
    | a => a
  | _ => a
def AV.wk (h : Nat) (v : AV) : AV := match v with
  | .one a => .one (AM.wk h a)
  | v => v
def moveP (h : Nat) (rid i : Nat) (t : TypeId) (v : AV) (hp : Hp) (K : KO) : Prop :=
  match h, v with
  | 1, .one (.ref id g) =>
    match hp id with
    | some (.own e sz es g' _) => g = g' ∧ K (.one (.val (.row es))) (upd id (.own e sz es g true) hp)
    | _ => False
  | 2, .one .nilrow =>
    match G.ti t with
    | some ti => match ti.sl with
      | some e => match G.ti e with
        | some te => 0 < te.size ∧ newOb rid i (.own e te.size [] 0 false) (.ref (pid rid i) 0) hp K
        | none => False
      | none => False
    | none => False
  | 3, v => K (v.wk 3) hp
  | _, v => K v hp

def loadP (t : TypeId) (a : AV) (hp : Hp) (K : KO) : Prop :=
  match G.ti t with
  | none => False
  | some ti =>
    match a with
    | .one (.ptr id off) =>
      match hp id with
      | some (.box cs) => match partA ti.agg ti.size off cs with
        | some v => K (.one v) hp
        | none => False
      | _ => False
    | .one (.vp e off) => match partV ti.agg ti.size off e.cells with
      | some v => K (.one (.val v)) hp
      | none => False
    | .one (.ep id g i off) =>
      match hp id with
      | some (.own _ _ es g' _) => g = g' ∧ ∃ e, es[i]? = some e ∧ match partV ti.agg ti.size off e.cells with
        | some v => K (.one (.val v)) hp
        | none => False
      | _ => False
    | _ => False

/-- A struct out of a variable, its rows the call's own still. -/
def loadS (rid i : Nat) (t : TypeId) (a : AV) (hp : Hp) (K : KO) : Prop :=
  match G.ti t with
  | none => False
  | some ti => match a with
    | .one (.ptr id off) => match hp id with
      | some (.box cs) => (ti.agg = true ∧ off + ti.size ≤ cs.length) ∧ newOb rid i (.vbox ((cs.drop off).take ti.size)) (.sp (pid rid i)) hp K
      | _ => False
    | _ => False
/-- Cells as values: rows of the call's own never turn from now on. -/
def frzL : List A0 → Hp → (List VV → Hp → Prop) → Prop
  | [], hp, K => K [] hp
  | a :: l, hp, K => match a with
    | .ref id g => match hp id with
      | some (.own e sz es g' _) => g = g' ∧ frzL l (upd id (.own e sz es g true) hp) fun vs hp' => K (.row es :: vs) hp'
      | some (.tree e sz es g') => g = g' ∧ frzL l (upd id (.own e sz es g true) hp) fun vs hp' => K (.row es :: vs) hp'
      | _ => False
    | a => match a.toVV with
      | some v => frzL l hp fun vs hp' => K (v :: vs) hp'
      | none => False
/-- A struct out of a variable, its rows told as values. -/
def loadF (t : TypeId) (a : AV) (hp : Hp) (K : KO) : Prop :=
  match G.ti t with
  | none => False
  | some ti => match a with
    | .one (.ptr id off) => match hp id with
      | some (.box cs) => (ti.agg = true ∧ off + ti.size ≤ cs.length) ∧ frzL ((cs.drop off).take ti.size) hp fun vs hp' => K (.one (.val (.agg vs))) hp'
      | _ => False
    | _ => False
def storeP (h : Nat) (t : TypeId) (a v : AV) (hp : Hp) (K : KO) : Prop :=
  match G.ti t with
  | none => False
  | some ti =>
    match a, v with
    | _, .one .dead => False
    | .one (.ptr id off), .one (.sp j) =>
      match hp id, hp j with
      | some (.box cs), some (.vbox ds) => ds.length = ti.size ∧ off + ds.length ≤ cs.length ∧ K (.tup []) (upd id (.box (setAt cs off ds)) hp)
      | _, _ => False
    | _, .one (.sp _) => False
    | .one (.ptr id off), .one v =>
      match hp id with
      | some (.box cs) => v.cells.length = ti.size ∧ off + v.cells.length ≤ cs.length ∧ K (.tup []) (upd id (.box (setAt cs off (v.cells.map (wk h)))) hp)
      | _ => False
    | .one (.ep id g i off), .one (.val v) =>
      match hp id with
      | some (.own e sz es g' pin) => pin = false ∧ g = g' ∧ v.cells.length = ti.size ∧ ∃ u, es[i]? = some u ∧ match stE u off v with
        | some u' => named (es.set i u') fun r => K (.tup []) (upd id (.own e sz r g pin) hp)
        | none => False
      | _ => False
    | _, _ => False

def parts (ρ : Operand → AV) : List (Nat × Operand) → Option (List (Nat × VV))
  | [] => some []
  | (i, x) :: rest => match ρ x, parts ρ rest with
    | .one a, some l => match a.toVV with | some v => some ((i, v) :: l) | none => none
    | _, _ => none

def partsA (ρ : Operand → AV) : List (Nat × Operand) → Option (List (Nat × List A0))
  | [] => some []
  | (i, x) :: rest => match ρ x, partsA ρ rest with
    | .one .dead, _ => none
    | .one (.sp _), _ => none
    | .one a, some l => some ((i, a.cells) :: l)
    | _, _ => none
def fillA (place : Nat → Option (Nat × Nat)) (cs : List A0) : List (Nat × List A0) → Option (List A0)
  | [] => some cs
  | (i, vs) :: rest =>
    match place i with
    | none => none
    | some (off, size) => if vs.length ≠ size ∨ off + size > cs.length then none else fillA place (setAt cs off vs) rest
def isNR : A0 → Bool
  | .nilrow => true
  | _ => false
/-- The type of the elements of the row that lies there in a struct. -/
def elemT (ti : TI) (k : Nat) : Option TypeId := match ti.flds.find? (fun f => Nat.beq f.1 k) with
  | some (_, ft, _) => match G.ti ft with
    | some tf => tf.sl
    | none => none
  | none => none
/-- A struct without memory whose first nil row gets a home. -/
def homeB (rid i : Nat) (ti : TI) (cs : List A0) (hp : Hp) (K : KO) : Prop :=
  match cs.findIdx? isNR with
  | some k => match elemT G ti k with
    | some e => match G.ti e with
      | some te => (0 < te.size ∧ hp (pid rid (i + 256)) = none) ∧ newOb rid i (.vbox ((setAt cs k [.ref (pid rid (i + 256)) 0]).map (wk 3))) (.sp (pid rid i)) (upd (pid rid (i + 256)) (.own e te.size [] 0 false) hp) K
      | none => False
    | none => False
  | none => False
def zeroVV (ti : TI) : Option (List VV) := mapO ofS ti.zero
/-- An element of a row out of its cells. -/
def elemOf (agg : Bool) (cs : List VV) : VV := if agg then .agg cs else cs.headD (.bool false)

def lenP (ti : TI) (v : AV) (hp : Hp) (K : KO) : Prop :=
  match v with
  | .one (.val (.str s)) => ti.str = true ∧ K (.one (.val (.int .i64 s.size))) hp
  | .one (.val (.row es)) => ti.sl.isSome = true ∧ ∃ m : Nat, es.length = m ∧ K (.one (.val (.int .i64 m))) hp
  | .one .nilrow => ti.sl.isSome = true ∧ K (.one (.val (.int .i64 0))) hp
  | .one (.ref id g) => ti.sl.isSome = true ∧ match hp id with
    | some (.own _ _ es g' _) => g = g' ∧ ∃ m : Nat, es.length = m ∧ K (.one (.val (.int .i64 m))) hp
    | _ => False
  | _ => False

def srcP (x : AV) (hp : Hp) (K' : List VV → Prop) : Prop :=
  match x with
  | .one (.val (.row xs)) => K' xs
  | .one .nilrow => K' []
  | .one (.ref id g) => match hp id with
    | some (.own _ _ xs g' _) => g = g' ∧ K' xs
    | _ => False
  | _ => False
/-- A row of bytes as a string. -/
def bytesP (s : TypeId) (v : AV) (hp : Hp) (K : KO) : Prop :=
  match G.ti s with
  | none => False
  | some si => match si.sl with
    | none => False
    | some e => match G.ti e with
      | none => False
      | some te => te.knd = some .u8 ∧ srcP v hp fun es => ∃ xs : List Int, es = xs.map (VV.int .u8) ∧ K (.one (.val (.str (strOfNums xs)))) hp
def appendP (rid i : Nat) (t : TypeId) (s x : AV) (hp : Hp) (K : KO) : Prop :=
  match G.ti t with
  | none => False
  | some ti => match ti.sl with
    | none => False
    | some e => match G.ti e with
      | none => False
      | some te =>
        let go (es xs : List VV) (K' : List VV → Prop) : Prop :=
          (0 < te.size ∧ te.zero.length = te.size ∧ es.length + xs.length ≤ 9223372036854775807 ∧ (es.length + xs.length) * te.bytes ≤ 140737488355328) ∧ SzOK xs te.size ∧ named (es ++ xs) K'
        match s with
        | .one .nilrow => srcP x hp fun xs => go [] xs fun r => newOb rid i (.own e te.size r 0 false) (.ref (pid rid i) 0) hp K
        | .one (.ref id g) => match hp id with
          | some (.own e' sz es g' pin) => g = g' ∧ e = e' ∧ sz = te.size ∧ srcP x hp fun xs => go es xs fun r => K (.one (.ref id (g + 1))) (upd id (.own e sz r (g + 1) pin) hp)
          | _ => False
        | _ => False

def mx2 (a b : Int) : Int := if b > a then b else a
def mn2 (a b : Int) : Int := if b < a then b else a

/-- A call's arguments under new names for what they point at. -/
def A0.ren (L : List Nat) : A0 → Option A0
  | .val v => some (.val v)
  | .nilrow => some (.val (.row []))
  | .nilp => some .nilp
  | .ptr id off => (L.findIdx? (Nat.beq id)).map fun j => .ptr j off
  | .ref id g => (L.findIdx? (Nat.beq id)).map fun j => .ref j g
  | .fn f caps => (mapO (fun id => L.findIdx? (Nat.beq id)) caps).map fun js => .fn f js
  | .sp id => (L.findIdx? (Nat.beq id)).map fun j => .sp j
  | _ => none
def argsO (L : List Nat) : List AV → Option (List A0)
  | [] => some []
  | .one a :: rest => match a.ren L, argsO L rest with
    | some b, some l => some (b :: l)
    | _, _ => none
  | _ :: _ => none

def updL : List Nat → List Ob → Hp → Hp
  | id :: L, o :: os, hp => upd id o (updL L os hp)
  | _, _, hp => hp
/-- What a call comes to: arguments, what is handed over; results, what has become of that and what is new (from the name 16 on). -/
abbrev CF := FuncId → List A0 → List Ob → List A0 → List Ob → Prop
def tupOf : List A0 → AV
  | [a] => .one a
  | l => .tup l
def A0.ids : A0 → List Nat
  | .ptr id _ => [id]
  | .ref id _ => [id]
  | .fn _ caps => caps
  | .sp id => [id]
  | _ => []
def AV.ids : AV → List Nat
  | .one a => a.ids
  | _ => []
def dedup : List Nat → List Nat
  | [] => []
  | a :: l => bif (dedup l).any (Nat.beq a) then dedup l else a :: dedup l
def idsL : List AV → List Nat
  | [] => []
  | a :: l => a.ids ++ idsL l
def idsC : List A0 → List Nat
  | [] => []
  | a :: l => a.ids ++ idsC l
def Ob.ids : Ob → List Nat
  | .box cs => idsC cs
  | .vbox cs => idsC cs
  | _ => []
/-- What can be reached in one step more. -/
def reach1 (hp : Hp) : List Nat → List Nat
  | [] => []
  | id :: l => (match hp id with | some o => o.ids | none => []) ++ reach1 hp l
/-- The objects that a call may reach. -/
def clo (hp : Hp) (args : List AV) : List Nat := dedup (reach1 hp (reach1 hp (idsL args)) ++ (reach1 hp (idsL args) ++ idsL args))
/-- Names of objects turned, generations too where it is told. -/
def mapK (ρ : Nat → Option Nat) (γ : Nat → Option (Nat × Nat)) : List A0 → (List A0 → Prop) → Prop
  | [], K => K []
  | a :: l, K => match a with
    | .ptr id off => match ρ id with
      | some j => mapK ρ γ l fun l' => K (.ptr j off :: l')
      | none => False
    | .ref id g => match ρ id with
      | some j => match γ id with
        | some p => g = p.1 ∧ mapK ρ γ l fun l' => K (.ref j p.2 :: l')
        | none => mapK ρ γ l fun l' => K (.ref j g :: l')
      | none => False
    | .fn f caps => match mapO ρ caps with
      | some js => mapK ρ γ l fun l' => K (.fn f js :: l')
      | none => False
    | .sp id => match ρ id with
      | some j => mapK ρ γ l fun l' => K (.sp j :: l')
      | none => False
    | .val v => mapK ρ γ l fun l' => K (.val v :: l')
    | .nilrow => mapK ρ γ l fun l' => K (.nilrow :: l')
    | .nilp => mapK ρ γ l fun l' => K (.nilp :: l')
    | .dead => mapK ρ γ l fun l' => K (.dead :: l')
    | _ => False
def mapObK (ρ : Nat → Option Nat) (γ : Nat → Option (Nat × Nat)) : List (Nat × Ob) → (List Ob → Prop) → Prop
  | [], K => K []
  | p :: l, K => match p.2 with
    | .box cs => mapK ρ γ cs fun cs' => mapObK ρ γ l fun l' => K (.box cs' :: l')
    | .own e sz es g pin => match γ p.1 with
      | some q => g = q.1 ∧ mapObK ρ γ l fun l' => K (.own e sz es q.2 pin :: l')
      | none => mapObK ρ γ l fun l' => K (.own e sz es g pin :: l')
    | .tree e sz es g => match γ p.1 with
      | some q => g = q.1 ∧ mapObK ρ γ l fun l' => K (.tree e sz es q.2 :: l')
      | none => mapObK ρ γ l fun l' => K (.tree e sz es g :: l')
    | .iter _ _ => False
    | .hole .. => False
    | .lost .. => False
    | .vbox cs => mapK ρ γ cs fun cs' => mapObK ρ γ l fun l' => K (.vbox cs' :: l')
def noG : Nat → Option (Nat × Nat) := fun _ => none
def ixf (L : List Nat) (id : Nat) : Option Nat := L.findIdx? (Nat.beq id)
def obsAt (hp : Hp) (L : List Nat) : Option (List (Nat × Ob)) := mapO (fun id => match hp id with | some o => some (id, o) | none => none) L
def nu (m k : Nat) : Nat := if k < m then k else 16 + (k - m)
def tag (m : Nat) : Nat → List Ob → List (Nat × Ob)
  | _, [] => []
  | k, o :: l => (nu m k, o) :: tag m (k + 1) l
def nid (rid i j : Nat) : Nat := 1000000 + (rid * 512 + i) * 16 + j
def newIds (rid i : Nat) : Nat → List Nat
  | 0 => []
  | n + 1 => newIds rid i n ++ [nid rid i n]
def beta (m : Nat) (P : List Nat) (j : Nat) : Option Nat := match Nat.blt j m with
  | true => P[j]?
  | false => match Nat.ble 16 j with
    | true => P[j - 16 + m]?
    | false => none
def freshB (hp : Hp) : List Nat → Bool
  | [] => true
  | id :: l => (match hp id with | none => true | some _ => false) && freshB hp l
/-- A list of names told as it stands, ahead of what goes on with it (else a run would compute it again at each place). -/
def forceL (l : List Nat) : (List Nat → Prop) → Prop := List.rec (motive := fun _ => (List Nat → Prop) → Prop) (fun K => K []) (fun a _ ih K => ih fun l => K (a :: l)) l
theorem forceL_eq (l : List Nat) (K : List Nat → Prop) : forceL l K = K l := by
  induction l generalizing K with
  | nil => rfl
  | cons a l ih => exact ih fun l => K (a :: l)
def dedupK (l : List Nat) : (List Nat → Prop) → Prop := List.rec (motive := fun _ => (List Nat → Prop) → Prop) (fun K => K []) (fun a _ ih K => ih fun r => match r.any (Nat.beq a) with
  | true => K r
  | false => K (a :: r)) l
theorem dedupK_eq (l : List Nat) (K : List Nat → Prop) : dedupK l K = K (dedup l) := by
  induction l generalizing K with
  | nil => rfl
  | cons a l ih =>
    refine (ih fun r => match r.any (Nat.beq a) with
      | true => K r
      | false => K (a :: r)).trans ?_
    simp only [dedup]
    cases h : (dedup l).any (Nat.beq a) <;> rfl
def cloK (hp : Hp) (args : List AV) (K : List Nat → Prop) : Prop := forceL (idsL args) fun A => forceL (reach1 hp A) fun B => forceL (reach1 hp B) fun C => dedupK (C ++ (B ++ A)) K
theorem cloK_eq (hp : Hp) (args : List AV) (K : List Nat → Prop) : cloK hp args K = K (clo hp args) := by
  unfold cloK clo; simp only [forceL_eq, dedupK_eq]
def callP (cf : CF) (rid i : Nat) (f : FuncId) (args : List AV) (hp : Hp) (K : KO) : Prop :=
  (G.fn f).isSome = true ∧ match G.eff f with
  | true => cloK hp args fun L => match argsO L args, obsAt hp L with
    | some as, some os => L.length ≤ 16 ∧ mapObK (ixf L) noG os fun obs => ∃ rs obs', cf f as obs rs obs' ∧
      (L.length ≤ obs'.length ∧ freshB hp (newIds rid i (obs'.length - L.length)) = true) ∧
      forceL (L ++ newIds rid i (obs'.length - L.length)) fun P => mapK (beta L.length P) noG rs fun l =>
        mapObK (beta L.length P) noG (tag L.length 0 obs') fun os' =>
          K (tupOf l) (updL P os' hp)
    | _, _ => False
  | false => match argsO [] args with
    | some as => ∃ rs, cf f as [] rs [] ∧ mapK (fun _ => none) noG rs fun l => K (tupOf l) hp
    | none => False
theorem callP_eq (cf : CF) (rid i : Nat) (f : FuncId) (args : List AV) (hp : Hp) (K : KO) : callP G cf rid i f args hp K =
  ((G.fn f).isSome = true ∧ match G.eff f with
  | true => match argsO (clo hp args) args, obsAt hp (clo hp args) with
    | some as, some os => (clo hp args).length ≤ 16 ∧ mapObK (ixf (clo hp args)) noG os fun obs => ∃ rs obs', cf f as obs rs obs' ∧
      ((clo hp args).length ≤ obs'.length ∧ freshB hp (newIds rid i (obs'.length - (clo hp args).length)) = true) ∧
      mapK (beta (clo hp args).length (clo hp args ++ newIds rid i (obs'.length - (clo hp args).length))) noG rs fun l =>
        mapObK (beta (clo hp args).length (clo hp args ++ newIds rid i (obs'.length - (clo hp args).length))) noG (tag (clo hp args).length 0 obs') fun os' =>
          K (tupOf l) (updL (clo hp args ++ newIds rid i (obs'.length - (clo hp args).length)) os' hp)
    | _, _ => False
  | false => match argsO [] args with
    | some as => ∃ rs, cf f as [] rs [] ∧ mapK (fun _ => none) noG rs fun l => K (tupOf l) hp
    | none => False) := by
  unfold callP; simp only [forceL_eq, cloK_eq]

def opQ (cf : CF) (fid rid i : Nat) (o : Oper) (ρ : Operand → AV) (hp : Hp) (K : KO) : Prop :=
  match o.op with
  | .move x | .assign x => moveP G (G.hint fid rid i) rid i o.type (ρ x) hp K
  | .pick c a b => match ρ c with
    | .one (.val (.bool t)) => (t = true ∧ K (ρ a) hp) ∨ (t = false ∧ K (ρ b) hp)
    | _ => False
  | .alloc e => match G.ti e with
    | some ti => (ti.zero.all Value.oneCell' = true ∧ hp (pid rid i) = none) ∧ K (.one (.ptr (pid rid i) 0)) (upd (pid rid i) (.box ((ti.zero.map ofC).map (wk (G.hint fid rid i)))) hp)
    | none => False
  | .box _ x => match G.hint fid rid i with
    | 9 => match ρ x with
      | .one (.sp j) => match hp j with
        | some (.vbox ds) => newOb rid i (.box ds) (.ptr (pid rid i) 0) hp K
        | _ => False
      | _ => False
    | _ => match ρ x with
      | .one .dead => False
      | .one (.sp _) => False
      | .one a => newOb rid i (.box (a.cells.map (wk (G.hint fid rid i)))) (.ptr (pid rid i) 0) hp K
      | _ => False
  | .build t ps => match G.hint fid rid i with
    | 9 => match G.ti t with
      | some ti => match zeroVV ti, partsA ρ ps.toList with
        | some z, some l => ti.flds.isEmpty = false ∧ match fillA (fun j => (ti.flds[j]?).map fun x => (x.1, x.2.2)) (z.map .val) l with
          | some cs => newOb rid i (.vbox cs) (.sp (pid rid i)) hp K
          | none => False
        | _, _ => False
      | none => False
    | 10 => match G.ti t with
      | some ti => match zeroVV ti, partsA ρ ps.toList with
        | some _, some l => ti.flds.isEmpty = false ∧ match fillA (fun j => (ti.flds[j]?).map fun x => (x.1, x.2.2)) (ti.zero.map ofC) l with
          | some cs => homeB G rid i ti cs hp K
          | none => False
        | _, _ => False
      | none => False
    | _ => match G.ti t with
      | some ti => match zeroVV ti, parts ρ ps.toList with
        | some z, some l => ti.flds.isEmpty = false ∧ match fillV (fun j => (ti.flds[j]?).map fun x => (x.1, x.2.2)) z l with
          | some cs => K (.one (.val (.agg cs))) hp
          | none => False
        | _, _ => False
      | none => False
  | .buildSlice t len ps => match G.ti t with
    | some ti => match ti.sl with
      | some e => match G.ti e with
        | some te => match zeroVV te, parts ρ ps.toList with
          | some z, some l => (0 < te.size ∧ len * te.size ≤ 2 ^ 24 ∧ z.length = te.size) ∧ match l.map (·.1) == List.range len, l.all (fun p => p.2.cells.length == te.size) with
            | true, true => named (l.map (·.2)) fun r => newOb rid i (.own e te.size r 0 false) (.ref (pid rid i) 0) hp K
            | _, _ => False
          | _, _ => False
        | none => False
      | none => False
    | none => False
  | .load t a => match G.hint fid rid i with
    | 9 => loadS G rid i t (ρ a) hp K
    | 11 => loadF G t (ρ a) hp K
    | _ => loadP G t (ρ a) hp K
  | .store t a x => storeP G (G.hint fid rid i) t (ρ a) (ρ x) hp K
  | .nilCheck x => match ρ x with
    | .one (.ptr id off) => K (.one (.ptr id off)) hp
    | .one (.vp e off) => K (.one (.vp e off)) hp
    | .one (.ep id g i off) => K (.one (.ep id g i off)) hp
    | .one (.fn f l) => K (.one (.fn f l)) hp
    | _ => False
  | .binOp op t x y _ => match G.ti t, ρ x, ρ y with
    | some ti, .one (.val x), .one (.val y) => bin op ti x y fun v => K (.one (.val v)) hp
    | _, _, _ => False
  | .unOp op _ x => match op, ρ x with
    | .not, .one (.val (.bool b)) => K (.one (.val (.bool !b))) hp
    | .neg, .one (.val (.int k n)) => ∃ z, k.wrap (0 - n) = z ∧ K (.one (.val (.int k z))) hp
    | _, _ => False
  | .convert s d x => match G.ti d with
    | some ti => match ti.str with
      | true => bytesP G s (ρ x) hp K
      | false => match ρ x with
        | .one (.val (.int _ n)) => match ti.knd with
          | some k => ∃ z, k.wrap n = z ∧ (G.P.underlying s).isSome = true ∧ K (.one (.val (.int k z))) hp
          | none => False
        | _ => False
    | none => False
  | .makeFunc (.func f) first caps => first.size = 0 ∧ match mapO (fun x => match ρ x with | .one (.ptr id 0) => some id | _ => none) caps.toList with
    | some l => K (.one (.fn f l)) hp
    | none => False
  | .makeSlice t l c => match G.ti t, ρ l, ρ c with
    | some ti, .one (.val (.int _ n)), .one (.val (.int _ m)) => match ti.sl with
      | some e => match G.ti e with
        | some te => match zeroVV te with
          | some z => n = m ∧ (0 ≤ n ∧ n ≤ 9223372036854775807 ∧ te.bytes * n ≤ 281474976710656 ∧ 0 < te.size ∧ z.length = te.size ∧ (te.agg = true ∨ te.size = 1)) ∧ named (List.replicate n.toNat (elemOf te.agg z)) fun r => newOb rid i (.own e te.size r 0 false) (.ref (pid rid i) 0) hp K
          | none => False
        | none => False
      | none => False
    | _, _, _ => False
  | .slice t x lo hi none => match G.ti t, ρ x, optV ρ lo, optV ρ hi with
    | some ti, .one (.val (.str s)), some lo, some hi => ti.str = true ∧ cutB s.size lo hi fun l h => K (.one (.val (.str (s.extract l h)))) hp
    | some ti, .one (.val (.row es)), some lo, some hi => match ti.sl with
      | some e => match G.ti e with
        | some te => SzOK es te.size ∧ cutB es.length lo hi fun l h => named ((es.take h).drop l) fun r => K (.one (.val (.row r))) hp
        | none => False
      | none => False
    | _, _, _, _ => False
  | .fieldAddr t x f => match G.ti t with
    | some ti => match ti.flds[f]? with
      | some (off, _, sz) => 0 < sz ∧ match ρ x with
        | .one (.ptr id o) => K (.one (.ptr id (o + off))) hp
        | .one (.vp e o) => K (.one (.vp e (o + off))) hp
        | .one (.ep id g j o) => K (.one (.ep id g j (o + off))) hp
        | _ => False
      | none => False
    | none => False
  | .field t x f => match G.hint fid rid i with
    | 9 => match G.ti t, ρ x with
      | some ti, .one (.sp id) => match hp id, ti.flds[f]? with
        | some (.vbox cs), some (off, ft, _) => match G.ti ft with
          | some tf => match partA tf.agg tf.size off cs with
            | some v => K (.one v) hp
            | none => False
          | none => False
        | _, _ => False
      | _, _ => False
    | _ => match G.ti t, ρ x with
      | some ti, .one (.val (.agg cs)) => match ti.flds[f]? with
        | some (off, ft, _) => match G.ti ft with
          | some tf => match partV tf.agg tf.size off cs with
            | some v => K (.one (.val v)) hp
            | none => False
          | none => False
        | none => False
      | _, _ => False
  | .indexAddr t x ix => match G.ti t, ρ x, ρ ix with
    | some ti, .one (.val (.row es)), .one (.val (.int _ n)) => match ti.sl with
      | some e => match G.ti e with
        | some te => 0 ≤ n ∧ ∃ u, es[n.toNat]? = some u ∧ u.cells.length = te.size ∧ 0 < te.size ∧ K (.one (.vp u 0)) hp
        | none => False
      | none => False
    | some ti, .one (.ref id g), .one (.val (.int _ n)) => match ti.sl with
      | some e => match G.ti e, hp id with
        | some te, some (.own _ sz es g' _) => g = g' ∧ sz = te.size ∧ 0 ≤ n ∧ n < (es.length : Int) ∧ K (.one (.ep id g n.toNat 0)) hp
        | _, _ => False
      | none => False
    | _, _, _ => False
  | .index t x ix => match G.ti t, ρ x, ρ ix with
    | some ti, .one (.val (.str s)), .one (.val (.int _ n)) => ti.str = true ∧ 0 ≤ n ∧ ∃ b : UInt8, s[n.toNat]? = some b ∧ K (.one (.val (.int .u8 (b.toNat : Int)))) hp
    | _, _, _ => False
  | .range t x => match G.ti t, ρ x with
    | some ti, .one (.val (.str s)) => ti.str = true ∧ newOb rid i (.iter s 0) (.ptr (pid rid i) 0) hp K
    | _, _ => False
  | .next x true => match ρ x with
    | .one (.ptr id 0) => match hp id with
      | some (.iter s p) => (decide (p < s.size) = true ∧ K (.tup [.val (.bool true), .val (.int .i64 p), .val (.int .i32 ((Utf8.decode s p).1 : Nat))]) (upd id (.iter s (p + (Utf8.decode s p).2)) hp)) ∨ (decide (p < s.size) = false ∧ K (.tup [.val (.bool false)]) hp)
      | _ => False
    | _ => False
  | .extract x j => match ρ x with
    | .tup as => match as[j]? with
      | some a => K (.one a) hp
      | none => False
    | _ => False
  | .call c =>
    match c.callee with
    | .builtin b => match b, c.args.toList, c.argTypes.toList with
      | .len, [x], [t] => match G.ti t with
        | some ti => lenP ti (ρ x) hp K
        | none => False
      | .append, [s, x], [t, t'] => t = t' ∧ appendP G rid i t (ρ s) (ρ x) hp K
      | .max, [x, y], _ => match ρ x, ρ y with
        | .one (.val (.int k a)), .one (.val (.int _ b)) => ∃ z, mx2 a b = z ∧ K (.one (.val (.int k z))) hp
        | _, _ => False
      | .min, [x, y], _ => match ρ x, ρ y with
        | .one (.val (.int k a)), .one (.val (.int _ b)) => ∃ z, mn2 a b = z ∧ K (.one (.val (.int k z))) hp
        | _, _ => False
      | _, _, _ => False
    | .value f => match ρ f with
      | .one (.fn f caps) => callP G cf rid i f (c.args.toList.map ρ ++ caps.map fun id => .one (.ptr id 0)) hp K
      | _ => False
    | _ => False
  | _ => False

/-- A row of the call's own that an operation makes is told as a value at once, where it is asked for (4). -/
def fz (K : KO) : KO := fun v hp => match v with
  | .one (.sp id) => match hp id with
    | some (.vbox cs) => frzL cs hp fun vs hp' => K (.one (.val (.agg vs))) hp'
    | _ => False
  | .one (.ref id g) => match hp id with
    | some (.own e sz es g' _) => g = g' ∧ K (.one (.val (.row es))) (upd id (.own e sz es g true) hp)
    | some (.tree e sz es g') => g = g' ∧ K (.one (.val (.row es))) (upd id (.own e sz es g true) hp)
    | _ => False
  | v => K v hp
/-- A row of the call's own is cut at its end, where it is asked for (5). -/
def truncP (o : Oper) (ρ : Operand → AV) (hp : Hp) (K : KO) : Prop :=
  match o.op with
  | .slice t x none (some hi) none => match G.ti t, ρ x, ρ hi with
    | some ti, .one (.ref id g), .one (.val (.int _ n)) => match ti.sl with
      | some e => match G.ti e, hp id with
        | some te, some (.own e' sz es g' pin) => pin = false ∧ g = g' ∧ e = e' ∧ sz = te.size ∧ (0 ≤ n ∧ n ≤ (es.length : Int)) ∧ named (es.take n.toNat) fun r => K (.one (.ref id (g + 1))) (upd id (.own e' sz r (g + 1) false) hp)
        | _, _ => False
      | none => False
    | _, _, _ => False
  | _ => False
/-- A nil row among a call's arguments gets a home ahead of the call, where it is asked for (6). -/
def isNil : Operand → Bool
  | .const (.slice none 0 0) => true
  | _ => false
def homeP (cf : CF) (fid rid i : Nat) (o : Oper) (ρ : Operand → AV) (hp : Hp) (K : KO) : Prop :=
  match o.op with
  | .call c => match c.argTypes.toList with
    | t :: _ => match G.ti t with
      | some ti => match ti.sl with
        | some e => match G.ti e with
          | some te => 0 < te.size ∧ hp (pid rid i) = none ∧ opQ G cf fid rid i o (fun x => bif isNil x then .one (.ref (pid rid i) 0) else ρ x) (upd (pid rid i) (.own e te.size [] 0 false) hp) K
          | none => False
        | none => False
      | none => False
    | [] => False
  | _ => False
/-- Looks at boxes alone, where it is asked for (7); turns rows alone (8). -/
def inT (T : List Nat) (id : Nat) : Bool := T.isEmpty || T.any (Nat.beq id)
def okBox (T : List Nat) (hp : Hp) (v : AV) : Bool := match v with
  | .one (.ptr id _) => match hp id with
    | some (.box _) => inT T id
    | _ => false
  | .one (.ref _ _) => false
  | .one (.ep _ _ _ _) => false
  | _ => true
def lookP (cf : CF) (fid rid i : Nat) (o : Oper) (ρ : Operand → AV) (hp : Hp) (K : KO) : Prop :=
  (o.op.operands.toList.all fun x => okBox (G.far fid rid) hp (ρ x)) = true ∧ opQ G cf fid rid i o ρ hp K
/-- The same boxes. -/
def BX (T : List Nat) (hp hp' : Hp) : Prop := ∀ id cs, inT T id = true → (hp id = some (.box cs) ↔ hp' id = some (.box cs))
def rowP (cf : CF) (fid rid i : Nat) (o : Oper) (ρ : Operand → AV) (hp : Hp) (K : KO) : Prop := opQ G cf fid rid i o ρ hp fun v hp' => BX (G.far fid rid) hp hp' ∧ K v hp'
/-! ### trees -/
/-- A value without rows. -/
def plainV : VV → Bool
  | .int _ _ | .bool _ | .str _ => true
  | _ => false
/-- How many cells an element has. -/
def szT (ty : Nat → Nat → Nat) (T : Nat) : Nat := ty T 999999
def tid (rid i m : Nat) : Nat := 2000000000 + (rid * 512 + i) * 16 + m
/-- Cells with their trees taken out of their objects; what lies in them. -/
def takeL : List A0 → Hp → (List VV → List (Option Nat) → Hp → Prop) → Prop
  | [], hp, K => K [] [] hp
  | a :: l, hp, K => match a with
    | .ref id g => match hp id with
      | some (.tree e sz es g') => g = g' ∧ takeL l (upd id (.tree e sz [] (g + 1)) hp) fun vs ts hp' => K (.row es :: vs) (some e :: ts) hp'
      | _ => False
    | .nilrow => takeL l hp fun vs ts hp' => K (.row [] :: vs) (none :: ts) hp'
    | .val v => plainV v = true ∧ takeL l hp fun vs ts hp' => K (v :: vs) (none :: ts) hp'
    | _ => False
def okTs (ty : Nat → Nat → Nat) (T sz : Nat) : Nat → List (Option Nat) → Bool
  | _, [] => true
  | k, none :: l => okTs ty T sz (k + 1) l
  | k, some e :: l => Nat.beq e (ty T (k % sz)) && okTs ty T sz (k + 1) l
/-- Rows of cells as elements. -/
def chunkV (agg : Bool) (sz : Nat) : Nat → List VV → List VV
  | 0, _ => []
  | n + 1, cs => elemOf agg (cs.take sz) :: chunkV agg sz n (cs.drop sz)
/-- A constant's cells. -/
def cellC (v : Value) : Option A0 := match ofC v with
  | .val v => match plainV v with
    | true => some (.val v)
    | false => none
  | .nilrow => some .nilrow
  | _ => none
/-- The cells of what a slot holds. -/
def cellsV (v : AV) (hp : Hp) : Option (List A0) := match v with
  | .one (.sp j) => match hp j with
    | some (.vbox cs) => some cs
    | _ => none
  | .one .dead => none
  | .one a => some a.cells
  | _ => none
def elemA (ρ : Operand → AV) (hp : Hp) : Operand → Option (List A0)
  | .const (.agg cs) => mapO cellC cs.toList
  | x => cellsV (ρ x) hp
def elemsA (ρ : Operand → AV) (hp : Hp) : List (Nat × Operand) → Option (List (Nat × List A0))
  | [] => some []
  | (i, x) :: rest => match elemA ρ hp x, elemsA ρ hp rest with
    | some a, some l => some ((i, a) :: l)
    | _, _ => none
/-- Nil rows get homes: trees of nothing. -/
def homesL (ty : Nat → Nat → Nat) (T rid i : Nat) : Nat → Nat → List A0 → Hp → (List A0 → Hp → Prop) → Prop
  | _, _, [], hp, K => K [] hp
  | k, m, a :: l, hp, K => match a with
    | .nilrow => (0 < szT ty (ty T k) ∧ hp (tid rid i m) = none) ∧ homesL ty T rid i (k + 1) (m + 1) l (upd (tid rid i m) (.tree (ty T k) (szT ty (ty T k)) [] 0) hp) fun cs hp' => K (.ref (tid rid i m) 0 :: cs) hp'
    | a => homesL ty T rid i (k + 1) m l hp fun cs hp' => K (a :: cs) hp'
/-- The rows within cells as objects of their own. -/
def outL (ty : Nat → Nat → Nat) (T rid i : Nat) : Nat → Nat → List VV → Hp → (List A0 → Hp → Prop) → Prop
  | _, _, [], hp, K => K [] hp
  | k, m, a :: l, hp, K => match a with
    | .row ks => (0 < szT ty (ty T k) ∧ hp (tid rid i m) = none) ∧ outL ty T rid i (k + 1) (m + 1) l (upd (tid rid i m) (.tree (ty T k) (szT ty (ty T k)) ks 0) hp) fun cs hp' => K (.ref (tid rid i m) 0 :: cs) hp'
    | v => plainV v = true ∧ outL ty T rid i (k + 1) m l hp fun cs hp' => K (.val v :: cs) hp'
/-- The one row among cells. -/
def oneRow : List VV → Nat → Option (Nat × List VV)
  | [], _ => none
  | .row ks :: l, k => match l.all plainV with
    | true => some (k, ks)
    | false => none
  | v :: l, k => match plainV v with
    | true => oneRow l (k + 1)
    | false => none
def cellsR (cs : List VV) (k : Nat) (a : A0) : List A0 := ((cs.take k).map A0.val) ++ a :: (cs.drop (k + 1)).map A0.val
/-- A tree's element (or a part of it) is told; 12: the tree ends, its rows are objects of their own; 13: the one row in it is an object for a while. -/
def tLoad (h rid i : Nat) (t : TypeId) (a : AV) (hp : Hp) (K : KO) : Prop :=
  match G.ti t, a with
  | some ti, .one (.ep id g k off) => match hp id with
    | some (.tree e sz es g') => g = g' ∧ ∃ u, es[k]? = some u ∧ match Nat.beq h 12, ti.agg with
      | true, false => match u.cells[off]? with
        | some v => plainV v = true ∧ K (.one (.val v)) hp
        | none => False
      | true, true => (off = 0 ∧ ti.size = u.cells.length) ∧ outL G.tab.ty e rid i 0 0 u.cells (upd id (.tree e sz [] (g + 1)) hp) fun cs hp' => newOb rid i (.vbox cs) (.sp (pid rid i)) hp' K
      | false, false => match u.cells[off]? with
        | some (.row ks) => (0 < szT G.tab.ty (G.tab.ty e off) ∧ hp (tid rid i 0) = none ∧ ti.size = 1) ∧ K (.one (.ref (tid rid i 0) 0)) (upd (tid rid i 0) (.tree (G.tab.ty e off) (szT G.tab.ty (G.tab.ty e off)) ks 0) (upd id (.hole e sz es g k off (tid rid i 0)) hp))
        | _ => False
      | false, true => match oneRow ((u.cells.drop off).take ti.size) 0 with
        | some (q, ks) => (0 < szT G.tab.ty (G.tab.ty e (off + q)) ∧ hp (tid rid i 0) = none ∧ off + ti.size ≤ u.cells.length) ∧ newOb rid i (.vbox (cellsR ((u.cells.drop off).take ti.size) q (.ref (tid rid i 0) 0))) (.sp (pid rid i)) (upd (tid rid i 0) (.tree (G.tab.ty e (off + q)) (szT G.tab.ty (G.tab.ty e (off + q))) ks 0) (upd id (.hole e sz es g k (off + q) (tid rid i 0)) hp)) K
        | none => False
    | _ => False
  | _, _ => False
/-- The row that was an object for a while is put back. -/
def joinP (id : Nat) (hp : Hp) (K : Hp → Prop) : Prop := match hp id with
  | some (.hole e sz es g k off j) => match hp j with
    | some (.tree e2 sz' ks g') => (g' = 0 ∧ Nat.beq e2 (G.tab.ty e off) = true) ∧ ∃ u, es[k]? = some u ∧ match stE u off (.row ks) with
      | some u' => named (es.set k u') fun r => K (upd id (.tree e sz r g) (upd j (.tree e2 sz' [] 1) hp))
      | none => False
    | _ => False
  | _ => False
def tStore (t : TypeId) (a v : AV) (hp : Hp) (K : KO) : Prop :=
  match G.ti t, a with
  | some ti, .one (.ep id g k off) => match v with
    | .one (.val v) => match hp id with
      | some (.tree e sz es g') => (g = g' ∧ plainV v = true ∧ ti.size = 1) ∧ ∃ u, es[k]? = some u ∧ match u.cells[off]?, stE u off v with
        | some c, some u' => plainV c = true ∧ named (es.set k u') fun r => K (.tup []) (upd id (.tree e sz r g) hp)
        | _, _ => False
      | _ => False
    | .one (.ref j gj) => match hp id, hp j with
      | some (.hole e sz es g' k' off' j'), some (.tree e2 sz2 ks g2) => (g = g' ∧ gj = g2 ∧ ti.size = 1) ∧ (k = k' ∧ off = off' ∧ Nat.beq j j' = true ∧ Nat.beq e2 (G.tab.ty e off) = true) ∧ ∃ u, es[k]? = some u ∧ match stE u off (.row ks) with
        | some u' => named (es.set k u') fun r => K (.tup []) (upd id (.tree e sz r g) (upd j (.tree e2 sz2 [] (gj + 1)) hp))
        | none => False
      | _, _ => False
    | _ => False
  | _, _ => False
/-- A whole element of a tree is written: a struct whose trees are taken. -/
def tPut (t : TypeId) (a v : AV) (hp : Hp) (K : KO) : Prop := match G.ti t, a, v with
  | some ti, .one (.ep id g k 0), .one (.sp j) => match hp j with
    | some (.vbox cs) => takeL cs hp fun vs ts hp' => match hp' id with
      | some (.tree e sz es g') => (g = g' ∧ ti.size = sz ∧ ti.agg = true ∧ cs.length = sz ∧ okTs G.tab.ty e sz 0 ts = true) ∧ ∃ u, es[k]? = some u ∧ named (es.set k (.agg vs)) fun r => K (.tup []) (upd id (.tree e sz r g) hp')
      | _ => False
    | _ => False
  | _, _, _ => False
def tMake (rid i : Nat) (t : TypeId) (l c : AV) (hp : Hp) (K : KO) : Prop := match G.ti t, l, c with
  | some ti, .one (.val (.int _ n)), .one (.val (.int _ m)) => match ti.sl with
    | some e => match G.ti e with
      | some te => match zeroVV te with
        | some z => n = m ∧ (0 ≤ n ∧ n ≤ 9223372036854775807 ∧ te.bytes * n ≤ 281474976710656 ∧ 0 < te.size ∧ z.length = te.size ∧ (te.agg = true ∨ te.size = 1) ∧ te.size = szT G.tab.ty e) ∧ named (List.replicate n.toNat (elemOf te.agg z)) fun r => newOb rid i (.tree e te.size r 0) (.ref (pid rid i) 0) hp K
        | none => False
      | none => False
    | none => False
  | _, _, _ => False
def tLen (ti : TI) (v : AV) (hp : Hp) (K : KO) : Prop := match v with
  | .one (.ref id g) => ti.sl.isSome = true ∧ match hp id with
    | some (.tree _ _ es g') => g = g' ∧ ∃ m : Nat, es.length = m ∧ K (.one (.val (.int .i64 m))) hp
    | _ => False
  | _ => False
def tAppend (t : TypeId) (s x : AV) (hp : Hp) (K : KO) : Prop :=
  match G.ti t, s, x with
  | some ti, .one (.ref id g), .one (.ref j gj) => match ti.sl with
    | some e => match G.ti e, hp id, hp j with
      | some te, some (.tree e1 sz1 es g1), some (.tree e2 sz2 es2 g2) => (g = g1 ∧ gj = g2 ∧ e = e1 ∧ e = e2 ∧ sz1 = te.size ∧ sz2 = te.size ∧ Nat.beq id j = false ∧ es2.isEmpty = false) ∧
        (0 < te.size ∧ te.zero.length = te.size ∧ es.length + es2.length ≤ 9223372036854775807 ∧ (es.length + es2.length) * te.bytes ≤ 140737488355328) ∧ Nat.beq te.size (szT G.tab.ty e) = true ∧
        named (es ++ es2) fun r => K (.one (.ref id (g + 1))) (upd id (.tree e te.size r (g + 1)) (upd j (.tree e te.size [] (gj + 1)) hp))
      | _, _, _ => False
    | none => False
  | _, _, _ => False
def treP (h rid i : Nat) (o : Oper) (ρ : Operand → AV) (hp : Hp) (K : KO) : Prop :=
  match o.op with
  | .move (.const (.agg cs)) | .assign (.const (.agg cs)) => match mapO cellC cs.toList with
    | some cs => homesL G.tab.ty o.type rid i 0 0 cs hp fun cs hp' => newOb rid i (.vbox cs) (.sp (pid rid i)) hp' K
    | none => False
  | .build t ps => match G.ti t with
    | some ti => match elemsA ρ hp ps.toList with
      | some l => (ti.flds.isEmpty = false ∧ ti.zero.all (fun v => (cellC v).isSome) = true) ∧ match fillA (fun j => (ti.flds[j]?).map fun x => (x.1, x.2.2)) (ti.zero.map ofC) l with
        | some cs => homesL G.tab.ty t rid i 0 0 cs hp fun cs hp' => newOb rid i (.vbox cs) (.sp (pid rid i)) hp' K
        | none => False
      | none => False
    | none => False
  | .buildSlice t len ps => match G.ti t with
    | some ti => match ti.sl with
      | some e => match G.ti e with
        | some te => match zeroVV te, elemsA ρ hp ps.toList with
          | some z, some l => (0 < te.size ∧ len * te.size ≤ 2 ^ 24 ∧ z.length = te.size ∧ (te.agg = true ∨ te.size = 1) ∧ te.size = szT G.tab.ty e) ∧ match l.map (·.1) == List.range len, l.all (fun p => p.2.length == te.size) with
            | true, true => takeL (l.flatMap (·.2)) hp fun vs ts hp' => okTs G.tab.ty e te.size 0 ts = true ∧ named (chunkV te.agg te.size len vs) fun r => newOb rid i (.tree e te.size r 0) (.ref (pid rid i) 0) hp' K
            | _, _ => False
          | _, _ => False
        | none => False
      | none => False
    | none => False
  | .load t a => tLoad G h rid i t (ρ a) hp K
  | .store t a x => match ρ x with
    | .one (.sp j) => tPut G t (ρ a) (.one (.sp j)) hp K
    | v => tStore G t (ρ a) v hp K
  | .makeSlice t l c => tMake G rid i t (ρ l) (ρ c) hp K
  | .indexAddr t x ix => match G.ti t, ρ x, ρ ix with
    | some ti, .one (.ref id g), .one (.val (.int _ n)) => match ti.sl with
      | some e => match G.ti e, hp id with
        | some te, some (.tree _ sz es g') => g = g' ∧ sz = te.size ∧ 0 ≤ n ∧ n < (es.length : Int) ∧ K (.one (.ep id g n.toNat 0)) hp
        | _, _ => False
      | none => False
    | _, _, _ => False
  | .call c => match c.callee with
    | .builtin b => match b, c.args.toList, c.argTypes.toList with
      | .len, [x], [t] => match G.ti t with
        | some ti => tLen ti (ρ x) hp K
        | none => False
      | .append, [s, x], [t, t'] => t = t' ∧ tAppend G t (ρ s) (ρ x) hp K
      | _, _, _ => False
    | _ => False
  | _ => False
/-! ### lending -/
def lendC (hp : Hp) : List A0 → (List VV → Prop) → Prop
  | [], K => K []
  | a :: l, K => match a with
    | .ref id g => match hp id with
      | some (.own _ _ es g' _) => g = g' ∧ lendC hp l fun vs => K (.row es :: vs)
      | some (.tree _ _ es g') => g = g' ∧ lendC hp l fun vs => K (.row es :: vs)
      | _ => False
    | a => match a.toVV with
      | some v => lendC hp l fun vs => K (v :: vs)
      | none => False
def lendL (hp : Hp) : List AV → (List A0 → Prop) → Prop
  | [], K => K []
  | v :: l, K => match v with
    | .one (.sp j) => match hp j with
      | some (.vbox cs) => lendC hp cs fun vs => lendL hp l fun as => K (.val (.agg vs) :: as)
      | _ => False
    | .one a => lendC hp [a] fun vs => match vs with
      | [v] => lendL hp l fun as => K (.val v :: as)
      | _ => False
    | _ => False
/-- A row of plain elements. -/
def FlatR (es : List VV) : Prop := ∀ e ∈ es, ∀ c ∈ e.cells, plainV c = true
/-- What comes back of a call that was lent something: plain values and new rows of plain ones. -/
def flatA (obs : List Ob) : List A0 → Bool
  | [] => true
  | .val v :: l => plainV v && flatA obs l
  | .ref k _ :: l => Nat.ble 16 k && flatA obs l
  | _ => false
def flatO : List Ob → Prop
  | [] => True
  | .own _ _ es _ pin :: l => (pin = false ∧ FlatR es) ∧ flatO l
  | _ => False
def lendP (cf : CF) (rid i : Nat) (o : Oper) (ρ : Operand → AV) (hp : Hp) (K : KO) : Prop := match o.op with
  | .call c => match c.callee with
    | .value f => match ρ f with
      | .one (.fn f []) => (G.fn f).isSome = true ∧ lendL hp (c.args.toList.map ρ) fun as => ∃ rs obs', cf f as [] rs obs' ∧ (flatA obs' rs = true ∧ flatO obs' ∧ freshB hp (newIds rid i obs'.length) = true) ∧
        mapK (beta 0 (newIds rid i obs'.length)) noG rs fun l => mapObK (beta 0 (newIds rid i obs'.length)) noG (tag 0 0 obs') fun os' => K (tupOf l) (updL (newIds rid i obs'.length) os' hp)
      | _ => False
    | _ => False
  | _ => False
def opR (cf : CF) (fid rid i : Nat) (o : Oper) (ρ : Operand → AV) (hp : Hp) (K : KO) : Prop :=
  match G.hint fid rid i with
  | 4 => opQ G cf fid rid i o ρ hp (fz K)
  | 5 => truncP G o ρ hp K
  | 6 => homeP G cf fid rid i o ρ hp K
  | 7 => lookP G cf fid rid i o ρ hp K
  | 8 => rowP G cf fid rid i o ρ hp K
  | 12 => treP G 12 rid i o ρ hp K
  | 13 => treP G 13 rid i o ρ hp K
  | 14 => lendP G cf rid i o ρ hp K
  | _ => opQ G cf fid rid i o ρ hp K
def opP (cf : CF) (fid rid i : Nat) (o : Oper) (ρ : Operand → AV) (hp : Hp) (K : KO) : Prop :=
  match G.post fid rid i with
  | 0 => opR G cf fid rid i o ρ hp K
  | n + 1 => opR G cf fid rid i o ρ hp fun v hp' => joinP G n hp' (K v)

/-- The value's head, told (that what stands for it be not told over and over). -/
def AV.force (v : AV) (K : AV → Prop) : Prop :=
  match v with
  | .one (.val (.int k n)) => K (.one (.val (.int k n)))
  | .one (.val (.bool b)) => K (.one (.val (.bool b)))
  | .one (.val (.str s)) => K (.one (.val (.str s)))
  | .one (.val (.agg cs)) => K (.one (.val (.agg cs)))
  | .one (.val (.row es)) => K (.one (.val (.row es)))
  | .one (.ptr id off) => K (.one (.ptr id off))
  | .one .nilp => K (.one .nilp)
  | .one (.ref id g) => K (.one (.ref id g))
  | .one (.ep id g i off) => K (.one (.ep id g i off))
  | .one (.vp e off) => K (.one (.vp e off))
  | .one (.fn f caps) => K (.one (.fn f caps))
  | .one .nilrow => K (.one .nilrow)
  | .one .dead => K (.one .dead)
  | .one (.sp id) => K (.one (.sp id))
  | .tup as => K (.tup as)
theorem AV.force_eq (v : AV) (K : AV → Prop) : v.force K = K v := by
  cases v with
  | tup as => rfl
  | one a =>
    cases a <;> try rfl
    rename_i v
    cases v <;> rfl
/-- One operation of a region, with its guard. -/
def stepP (cf : CF) (fid rid : Nat) (ops : Array Oper) (i : Nat) (o : Oper) (fr : Fr) (hp : Hp) (K : KO) : Prop :=
  match o.guard with
  | none => opP G cf fid rid i o (ev fr) hp K
  | some (j, want) => match (ops[j]?).bind (·.dst) with
    | none => False
    | some d => match fr d with
      | .one (.val (.bool b)) => (b = want ∧ opP G cf fid rid i o (ev fr) hp K) ∨ (b = !want ∧ K (.tup []) hp)
      | .tup [] => K (.tup []) hp
      | _ => False
/- By the recursor itself: the elaborator and the kernel then unfold it alike. -/
def runP (cf : CF) (fid rid : Nat) (ops : Array Oper) (l : List (Nat × Oper)) : Fr → Hp → (Fr → Hp → Prop) → Prop :=
  List.rec (motive := fun _ => Fr → Hp → (Fr → Hp → Prop) → Prop) (fun fr hp K => K fr hp)
    (fun p _ ih fr hp K => stepP G cf fid rid ops p.1 p.2 fr hp fun v hp' => v.force fun v => ih (put p.2.dst v fr) hp' K) l
theorem runP_cons (cf : CF) (fid rid : Nat) (ops : Array Oper) (i : Nat) (o : Oper) (rest : List (Nat × Oper)) (fr : Fr) (hp : Hp) (K : Fr → Hp → Prop) :
    runP G cf fid rid ops ((i, o) :: rest) fr hp K = stepP G cf fid rid ops i o fr hp fun v hp' => runP G cf fid rid ops rest (put o.dst v fr) hp' K := by
  show (stepP G cf fid rid ops i o fr hp fun v hp' => v.force fun v => runP G cf fid rid ops rest (put o.dst v fr) hp' K) = _
  simp only [AV.force_eq]
def number {α : Type} : Nat → List α → List (Nat × α)
  | _, [] => []
  | n, a :: as => (n, a) :: number (n + 1) as

/-! ### control -/
inductive X where
  | nrm
  | ext (id : Nat)
  | ret
abbrev KX := X → Fr → Hp → Prop
/-- Where ways meet objects may take other names: pairs, what it was and what it is. -/
def fwd : List (Nat × Nat) → Nat → Option Nat
  | [], _ => none
  | p :: l, id => match Nat.beq p.1 id with
    | true => some p.2
    | false => fwd l id
def nodupA : List Nat → Bool
  | [] => true
  | a :: l => !(l.any (Nat.beq a)) && nodupA l
def okR (R : List (Nat × Nat)) : Bool := nodupA (R.map (·.1)) && nodupA (R.map (·.2)) && R.all fun p => Nat.ble 16 p.2 || Nat.beq p.1 p.2
def A0.clean (R : List (Nat × Nat)) (a : A0) : A0 := match a with
  | .ptr id off => match fwd R id with
    | some j => .ptr j off
    | none => .dead
  | .ref id g => match fwd R id with
    | some j => .ref j g
    | none => .dead
  | .ep id g i off => match fwd R id with
    | some j => .ep j g i off
    | none => .dead
  | .sp id => match fwd R id with
    | some j => .sp j
    | none => .dead
  | .fn f caps => match mapO (fwd R) caps with
    | some js => .fn f js
    | none => .dead
  | a => a
def AV.clean (R : List (Nat × Nat)) : AV → AV
  | .one a => .one (a.clean R)
  | .tup as => .tup (as.map (·.clean R))
def Ob.clean (R : List (Nat × Nat)) : Ob → Ob
  | .box cs => .box (cs.map (·.clean R))
  | .vbox cs => .vbox (cs.map (·.clean R))
  | .hole _ sz _ g _ _ _ => .lost g sz
  | o => o
def cleanF (R : List (Nat × Nat)) (fr : Fr) : Fr := fun t => (fr t).clean R
def cleanH (R : List (Nat × Nat)) (hp : Hp) : List (Nat × Nat) → Hp
  | [] => fun _ => none
  | p :: rest => match hp p.1 with | some o => upd p.2 (o.clean R) (cleanH R hp rest) | none => cleanH R hp rest
/-! ### drawn regions: what may stand in any order -/
def cls0 (fid rid i : Nat) (o : Oper) : Nat :=
  match o.op with
  | .move _ | .assign _ => match G.hint fid rid i with | 0 => 0 | 2 => 3 | 3 => 0 | _ => 2
  | .pick .. | .binOp .. | .unOp .. | .makeFunc .. | .slice .. | .fieldAddr .. | .index .. | .extract .. | .nilCheck _ => 0
  | .build .. => match G.hint fid rid i with | 9 => 3 | 10 => 2 | _ => 0
  | .field .. => match G.hint fid rid i with | 9 => 2 | _ => 0
  | .load .. => match G.hint fid rid i with | 9 => 2 | 11 => 2 | _ => 1
  | .indexAddr .. => 1
  | .convert _ d _ => match G.ti d with | some ti => (match ti.str with | true => 1 | false => 0) | none => 0
  | .box .. => match G.hint fid rid i with | 9 => 2 | _ => 3
  | .alloc _ | .buildSlice .. | .makeSlice .. => 3
  | .call c => match c.callee with
    | .builtin .max | .builtin .min => 0
    | .builtin .len => 1
    | .value (.func f) => if G.eff f then 2 else 0
    | _ => 2
  | _ => 2
def clsR (fid rid i : Nat) (o : Oper) : Nat := match G.hint fid rid i with | 4 => 2 | 5 => 2 | 6 => 2 | 12 => 2 | 13 => 2 | 14 => 2 | 7 => (match cls0 G fid rid i o with | 1 => 5 | _ => 2) | 8 => 6 | _ => cls0 G fid rid i o
def cls (fid rid i : Nat) (o : Oper) : Nat := match G.post fid rid i with | 0 => clsR G fid rid i o | _ => 2
def compat (a b : Nat) : Bool := a == 0 || b == 0 || ((a == 1 || a == 3 || a == 5) && (b == 1 || b == 3 || b == 5)) || (a == 5 && b == 6) || (a == 6 && b == 5)
/-- What each operation waits for, through others too: bits. -/
def masks (ops : List Oper) : List Nat → List Nat
  | done => match ops with
    | [] => done
    | o :: rest => masks rest (done ++ [o.after.toList.foldl (fun m e => bif Region.binds .any e then m ||| 2 ^ e.on ||| done.getD e.on 0 else m) 0])
def drawOK (fid rid : Nat) (ops : Array Oper) : Bool :=
  let ms := masks ops.toList []
  (number 0 ops.toList).all fun (b, ob) => (ob.after.toList.all fun e => !Region.binds .any e || Nat.blt e.on b) && ((number 0 ops.toList).take b).all fun (a, oa) => (ms.getD b 0).testBit a || (Oper.apart ops oa ob && compat (cls G fid rid a oa) (cls G fid rid b ob))

/-- Where ways meet. -/
@[irreducible] def Jn (n : Nat) (P : Prop) : Prop := P
theorem Jn.go {n : Nat} {P : Prop} (h : P) : Jn n P := by unfold Jn; exact h
theorem Jn.out {n : Nat} {P : Prop} (h : Jn n P) : P := by unfold Jn at h; exact h
def joinAt : Code → Option Nat
  | .cond (.tmp t) _ _ => some t
  | .block id _ => some (100000 + id)
  | .region rid _ _ => some (200000 + rid)
  | .seq _ b => joinAt b
  | _ => none
def seqP (n : Option Nat) (fid : FuncId) (a b : Fr → Hp → KX → Prop) (fr : Fr) (hp : Hp) (K : KX) : Prop :=
  match n with
  | none => a fr hp fun x fr hp => match x with
    | .nrm => b fr hp K
    | x => K x fr hp
  | some n => match G.cut fid n with
    | false => a fr hp fun x fr hp => match x with
      | .nrm => b fr hp K
      | x => K x fr hp
    | true => Jn n (∃ Mid : Fr → Hp → Prop, (a fr hp fun x fr hp => match x with
      | .nrm => ∃ R, okR R = true ∧ Mid (cleanF R fr) (cleanH R hp R)
      | x => K x fr hp) ∧ ∀ fr hp, Mid fr hp → b fr hp K)
def WK (e : Fr → Hp → KX → Prop) (K : KX) (fr : Fr) (hp : Hp) : Prop := ∃ K' : KX, (∀ x fr hp, K' x fr hp → K x fr hp) ∧ e fr hp K'
def exec (cf : CF) (fid : FuncId) (c : Code) : Fr → Hp → KX → Prop :=
  Code.rec (motive := fun _ => Fr → Hp → KX → Prop)
    (skip := fun fr hp K => K .nrm fr hp)
    (region := fun rid ops d fr hp K => match d with
      | true => drawOK G fid rid ops = true ∧ runP G cf fid rid ops (number 0 ops.toList) fr hp fun fr hp => K .nrm fr hp
      | false => runP G cf fid rid ops (number 0 ops.toList) fr hp fun fr hp => K .nrm fr hp)
    (seq := fun a _ ea eb fr hp K => seqP G (joinAt a) fid ea eb fr hp K)
    (cond := fun c _ _ et ee fr hp K => match ev fr c with
      | .one (.val (.bool b)) => (b = true ∧ et fr hp K) ∨ (b = false ∧ ee fr hp K)
      | _ => False)
    (block := fun id _ eb fr hp K => eb fr hp fun x fr hp => match x with
      | .ext j => match Nat.beq j id with
        | true => K .nrm fr hp
        | false => K (.ext j) fr hp
      | x => K x fr hp)
    (loop := fun _ eb fr hp K => ∀ I : Fr → Hp → Prop, (∀ fr hp, WK eb (fun x fr' hp' => match x with
      | .nrm => ∃ R, okR R = true ∧ I (cleanF R fr') (cleanH R hp' R)
      | x => K x fr' hp') fr hp → I fr hp) → ∃ R, okR R = true ∧ I (cleanF R fr) (cleanH R hp R))
    (rangeFunc := fun _ _ _ _ _ _ _ _ _ => False)
    (exit := fun id fr hp K => K (.ext id) fr hp)
    (scope := fun _ _ _ _ _ => False)
    (label := fun _ _ _ _ => False)
    (goto := fun _ _ _ _ => False)
    (ret := fun fr hp K => K .ret fr hp)
    (refuse := fun _ _ _ _ => False) c
theorem exec_seq (cf : CF) (fid : FuncId) (a b : Code) (fr : Fr) (hp : Hp) (K : KX) : exec G cf fid (.seq a b) fr hp K = seqP G (joinAt a) fid (exec G cf fid a) (exec G cf fid b) fr hp K := rfl
theorem exec_cond (cf : CF) (fid : FuncId) (c : Operand) (a b : Code) (fr : Fr) (hp : Hp) (K : KX) : exec G cf fid (.cond c a b) fr hp K = (match ev fr c with
      | .one (.val (.bool v)) => (v = true ∧ exec G cf fid a fr hp K) ∨ (v = false ∧ exec G cf fid b fr hp K)
      | _ => False) := rfl

def Oper.fits (nt : Nat) (o : Oper) : Bool := match o.dst with | some d => d < nt | none => true
def codeOK (nt : Nat) : Code → Bool
  | .region _ ops _ => ops.toList.all (Oper.fits nt)
  | .seq a b => codeOK nt a && codeOK nt b
  | .cond _ a b => codeOK nt a && codeOK nt b
  | .block _ a => codeOK nt a
  | .loop a => codeOK nt a
  | _ => true
/-- The results' slots. -/
def resA (fr : Fr) (hp : Hp) : ResultVar → Option A0
  | .tmp t => match fr t with | .one a => some a | _ => none
  | .cell t ty => match G.ti ty, fr t with
    | some ti, .one (.ptr id off) => match hp id with
      | some (.box cs) => partA ti.agg ti.size off cs
      | _ => none
    | _, _ => none
/-- The results' slots; structs whose rows are the call's own are lifted out of their variables (9). -/
def resO (fid : FuncId) (fr : Fr) : Nat → Hp → List ResultVar → Option (List A0 × Hp)
  | _, hp, [] => some ([], hp)
  | n, hp, rv :: rest => match G.hint fid 900000 n with
    | 9 => match rv with
      | .cell t ty => match G.ti ty, fr t with
        | some ti, .one (.ptr id off) => match hp id, hp (pid 900000 n) with
          | some (.box cs), none => match ti.agg && Nat.ble (off + ti.size) cs.length with
            | true => match resO fid fr (n + 1) (upd (pid 900000 n) (.vbox ((cs.drop off).take ti.size)) hp) rest with
              | some p => some (.sp (pid 900000 n) :: p.1, p.2)
              | none => none
            | false => none
          | _, _ => none
        | _, _ => none
      | _ => none
    | _ => match resA G fr hp rv, resO fid fr (n + 1) hp rest with
      | some a, some p => some (a :: p.1, p.2)
      | _, _ => none
/-- Names at the end of a call: what was handed over, what is new (16 and on). -/
def outI (m : Nat) (M : List Nat) (id : Nat) : Option Nat := match Nat.blt id m with
  | true => some id
  | false => (M.findIdx? (Nat.beq id)).map (16 + ·)
def lookG : List (Nat × (Nat × Nat)) → Nat → Option (Nat × Nat)
  | [], _ => none
  | p :: l, id => match Nat.beq p.1 id with
    | true => some p.2
    | false => lookG l id
/-- Generations that are told anew: of what was handed over the next one. -/
def okG (obs : List Ob) : List (Nat × (Nat × Nat)) → Prop
  | [] => True
  | p :: l => (match obs[p.1]? with
    | some (.own _ _ _ g _) => p.2.2 = g + 1
    | some (.tree _ _ _ g) => p.2.2 = g + 1
    | some (.box _) => False
    | some (.iter _ _) => False
    | some (.hole ..) => False
    | some (.lost ..) => False
    | some (.vbox _) => False
    | none => True) ∧ okG obs l
def nodupB : List Nat → Bool
  | [] => true
  | a :: l => !(l.any (Nat.beq a)) && nodupB l
def okM (m : Nat) (M : List Nat) : Bool := M.all (Nat.ble m) && nodupB M
def postP (fid : FuncId) (F : Func) (obs : List Ob) (rs : List A0) (obs' : List Ob) : KX := fun x fr hp =>
  (match x with | .ext _ => False | _ => True) ∧ ∃ M gs, (okM obs.length M = true ∧ okG obs gs) ∧ ∃ l, resO G fid fr 0 hp F.results.toList = some l ∧ ∃ os, obsAt l.2 (List.range obs.length ++ M) = some os ∧
    mapK (outI obs.length M) (lookG gs) (l.1.map (wk 3)) fun rs' => rs' = rs ∧ mapObK (outI obs.length M) (lookG gs) os fun os' => os' = obs'
def frame0 (as : List A0) : Fr := fun t => match as[t]? with | some a => .one a | none => .tup []
def heap0 (obs : List Ob) : Hp := fun j => obs[j]?
/-- What a body tells. -/
def bodyP (cf : CF) : CF := fun f as obs rs obs' => ∃ F c, G.fn f = some F ∧ F.body = some c ∧ (codeOK F.ntmps c = true ∧ as.length ≤ F.ntmps ∧ obs.length ≤ 16) ∧ exec G cf f c (frame0 as) (heap0 obs) (postP G f F obs rs obs')
/-- What is told by bodies, of any depth. -/
def CE : CF := fun f as obs rs obs' => ∀ cf : CF, (∀ f as obs rs obs', bodyP G cf f as obs rs obs' → cf f as obs rs obs') → (∀ f as obs rs obs', G.orc f as obs rs obs' → cf f as obs rs obs') → cf f as obs rs obs'
end
end Go.Proofs.YtccldchklemogaaW.AM
