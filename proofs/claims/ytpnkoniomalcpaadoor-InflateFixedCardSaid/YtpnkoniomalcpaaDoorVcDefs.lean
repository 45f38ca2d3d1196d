/- A verification-condition generator over the model's code: what a piece of code asks, over heaps alone. Nothing here is trusted: XVcSound proves each rule against the kit's Code.wp. -/
import Derived.Orders
import Derived.Laws.Sem
import Derived.RowKit3
namespace Go.Vc
open Go

abbrev Heap := Array Obj
abbrev Env := Nat → Value

/-! ### strings as lists of bytes -/
/-- a string value of a list of bytes -/
abbrev str (l : List UInt8) : Value := .string ⟨l.toArray⟩
/-- the bytes of a string -/
def bys (s : ByteArray) : List UInt8 := s.data.toList
@[simp] theorem bys_mk (l : List UInt8) : bys ⟨l.toArray⟩ = l := by simp [bys]
/-- a byte as a value -/
abbrev byteV (b : UInt8) : Value := .int .u8 (b.toNat : Int)
theorem str_bys (s : ByteArray) : Value.string s = str (bys s) := by cases s; simp [bys]

/-! ### environments -/
def memb (n : Nat) : List Nat → Bool
  | [] => false
  | m :: r => bif Nat.beq n m then true else memb n r
def Env.upd (ρ : Env) (t : Nat) (v : Value) : Env := fun s => bif Nat.beq s t then v else ρ s
def Env.put (ρ : Env) : Option Tmp → Value → Env
  | some t, v => ρ.upd t v
  | none, _ => ρ
def Env.mix (ρ junk : Env) (l : List Nat) : Env := fun s => bif memb s l then junk s else ρ s
def ev (ρ : Env) : Operand → Value
  | .tmp t => ρ t
  | .const v => v
  | .global g => .pointer (some ⟨g, 0, none⟩)
  | .func f => .func (.func f) #[] #[]
def evs (ρ : Env) : List Operand → List Value
  | [] => []
  | x :: r => ev ρ x :: evs ρ r
def evo (ρ : Env) : Option Operand → Option Value
  | none => none
  | some x => some (ev ρ x)
def evps (ρ : Env) : List (Nat × Operand) → List (Nat × Value)
  | [] => []
  | (i, x) :: r => (i, ev ρ x) :: evps ρ r

/-! ### what a world keeps, and a call over heaps -/
structure Rest (w w' : World) : Prop where
  os : w'.os = w.os
  output : w'.output = w.output
theorem Rest.refl (w : World) : Rest w w := ⟨rfl, rfl⟩
theorem Rest.trans {a b c : World} (h : Rest a b) (k : Rest b c) : Rest a c := ⟨k.os.trans h.os, k.output.trans h.output⟩

/-- In every world with this heap the call returns, and value and heap are such. -/
def CallsH (P : Program) (f : FuncId) (args : Array Value) (H : Heap) (R : Value → Heap → Prop) : Prop :=
  ∀ w : World, w.heap = H → Calls P f args w fun e w' => ∃ v, e = .returned v ∧ Rest w w' ∧ R v w'.heap
theorem CallsH.mono {P : Program} {f : FuncId} {args : Array Value} {H : Heap} {R R' : Value → Heap → Prop} (h : CallsH P f args H R) (hr : ∀ v H', R v H' → R' v H') : CallsH P f args H R' :=
  fun w hw => (h w hw).mono fun _ _ ⟨v, he, hk, hv⟩ => ⟨v, he, hk, hr _ _ hv⟩

/-! ### the heap's cells -/
def cellAt (H : Heap) (a : Addr) : Option Value :=
  match H[a.block]? with
  | some (.cells c _ _) => if a.spot.isSome then none else c[a.off]?
  | _ => none
def frozenAt (H : Heap) (a : Addr) : Bool :=
  match H[a.block]? with
  | some (.cells _ _ (lo, hi)) => lo ≤ a.off && a.off < hi
  | _ => false
def setAt (H : Heap) (a : Addr) (v : Value) : Heap :=
  H.modify a.block fun
    | .cells c elem frozen => .cells (if a.spot.isSome then c else c.setIfInBounds a.off v) elem frozen
    | o => o
def oneCell : Value → Bool
  | .agg _ | .tuple _ => false
  | _ => true
/-- n cells from an address on -/
def cellsAt (H : Heap) (a : Addr) : Nat → Option (List Value)
  | 0 => some []
  | n + 1 => match cellsAt H a n with
    | some l => match cellAt H (a.add n) with
      | some v => some (l ++ [v])
      | none => none
    | none => none
/-- cells stored from an address on, each of them there and not frozen -/
def setsAt (H : Heap) (a : Addr) : Nat → List Value → Option Heap
  | _, [] => some H
  | i, v :: r => match cellAt H (a.add i) with
    | some _ => bif frozenAt H (a.add i) then none else bif oneCell v then setsAt (setAt H (a.add i) v) a (i + 1) r else none
    | none => none

/-! ### operations that don't look at memory -/
section
def pPick (c a b : Value) (K : Value → Prop) : Prop := match c with
  | .bool t => K (bif t then a else b)
  | _ => False
def pNil (x : Value) (K : Value → Prop) : Prop := match x with
  | .pointer (some a) => K (.pointer (some a))
  | .func (.func f) a b => K (.func (.func f) a b)
  | _ => False
def pAdd (x y : Value) (K : Value → Prop) : Prop := match x, y with
  | .int k a, .int k' b => k = k' ∧ K (.int k (k.wrap (a + b)))
  | .string a, .string b => a.size + b.size ≤ 9223372036854775807 ∧ K (str (bys a ++ bys b))
  | _, _ => False
def pSub (x y : Value) (K : Value → Prop) : Prop := match x, y with
  | .int k a, .int k' b => k = k' ∧ K (.int k (k.wrap (a - b)))
  | _, _ => False
def pMul (x y : Value) (K : Value → Prop) : Prop := match x, y with
  | .int k a, .int k' b => k = k' ∧ K (.int k (k.wrap (a * b)))
  | _, _ => False
def pQuo (x y : Value) (K : Value → Prop) : Prop := match x, y with
  | .int k a, .int k' b => k = k' ∧ b ≠ 0 ∧ K (.int k (k.wrap (a.tdiv b)))
  | _, _ => False
def pRem (x y : Value) (K : Value → Prop) : Prop := match x, y with
  | .int k a, .int k' b => k = k' ∧ b ≠ 0 ∧ K (.int k (a.tmod b))
  | _, _ => False
def bitsOf (op : BinOp) (k : IntKind) (x y : Int) : Int :=
  let a := BitVec.ofInt k.bits x
  let b := BitVec.ofInt k.bits y
  k.wrap (match op with
    | .and => (a &&& b).toNat
    | .or => (a ||| b).toNat
    | .xor => (a ^^^ b).toNat
    | _ => (a &&& ~~~b).toNat : Nat)
def pBits (op : BinOp) (x y : Value) (K : Value → Prop) : Prop := match x, y with
  | .int k a, .int k' b => k = k' ∧ K (.int k (bitsOf op k a b))
  | _, _ => False
def pShl (x y : Value) (K : Value → Prop) : Prop := match x, y with
  | .int k a, .int _ b => 0 ≤ b ∧ K (.int k (k.wrap (a * 2 ^ (min b.toNat k.bits))))
  | _, _ => False
def pShr (x y : Value) (K : Value → Prop) : Prop := match x, y with
  | .int k a, .int _ b => 0 ≤ b ∧ K (.int k (a.fdiv (2 ^ (min b.toNat k.bits))))
  | _, _ => False
def pLt (x y : Value) (K : Value → Prop) : Prop := match x, y with
  | .int k a, .int k' b => k = k' ∧ K (.bool (decide (a < b)))
  | _, _ => False
def pLe (x y : Value) (K : Value → Prop) : Prop := match x, y with
  | .int k a, .int k' b => k = k' ∧ K (.bool (decide (a ≤ b)))
  | _, _ => False
def pGt (x y : Value) (K : Value → Prop) : Prop := match x, y with
  | .int k a, .int k' b => k = k' ∧ K (.bool (decide (b < a)))
  | _, _ => False
def pGe (x y : Value) (K : Value → Prop) : Prop := match x, y with
  | .int k a, .int k' b => k = k' ∧ K (.bool (decide (b ≤ a)))
  | _, _ => False
/-- == of one cell; the kinds: 0 a number, 1 a string, 2 a bool, 3 a pointer, 4 a slice, 5 a map (the last three against nil) -/
def eqK : Nat → Value → Value → Option Bool
  | 0, .int k a, .int k' b => if k = k' then some (decide (a = b)) else none
  | 1, .string a, .string b => some (decide (bys a = bys b))
  | 2, .bool a, .bool b => some (decide (a = b))
  | 3, .pointer none, .pointer b => some b.isNone
  | 3, .pointer (some _), .pointer none => some false
  | 4, .slice none _ _, .slice b _ _ => some b.isNone
  | 4, .slice (some _) _ _, .slice none _ _ => some false
  | 5, .map none, .map b => some b.isNone
  | 5, .map (some _), .map none => some false
  | _, _, _ => none
def kindD : TypeDesc → Option Nat
  | .int _ => some 0
  | .string => some 1
  | .bool => some 2
  | .pointer _ => some 3
  | .slice _ => some 4
  | .map _ _ => some 5
  | _ => none
def pEq (k : Nat) (x y : Value) (K : Value → Prop) : Prop := match eqK k x y with
  | some b => K (.bool b)
  | none => False
def pNe (k : Nat) (x y : Value) (K : Value → Prop) : Prop := match eqK k x y with
  | some b => K (.bool (!b))
  | none => False
/-- == of two structs, cell by cell -/
def eqCells : List Nat → List Value → List Value → Option Bool
  | [], [], [] => some true
  | k :: ks, x :: r, y :: s => match eqK k x y with
    | some b => match eqCells ks r s with
      | some c => some (b && c)
      | none => none
    | none => none
  | _, _, _ => none
def pEqA (ks : List Nat) (x y : Value) (K : Value → Prop) : Prop := match x, y with
  | .agg a, .agg b => match eqCells ks a.toList b.toList with
    | some c => K (.bool c)
    | none => False
  | _, _ => False
def pNeA (ks : List Nat) (x y : Value) (K : Value → Prop) : Prop := match x, y with
  | .agg a, .agg b => match eqCells ks a.toList b.toList with
    | some c => K (.bool (!c))
    | none => False
  | _, _ => False
def pNot (x : Value) (K : Value → Prop) : Prop := match x with
  | .bool b => K (.bool !b)
  | _ => False
def pNeg (x : Value) (K : Value → Prop) : Prop := match x with
  | .int k n => K (.int k (k.wrap (0 - n)))
  | _ => False
def pCom (x : Value) (K : Value → Prop) : Prop := match x with
  | .int k n => K (.int k (bitsOf .xor k (if k.signed then -1 else k.max) n))
  | _ => False
def pConv (k : IntKind) (x : Value) (K : Value → Prop) : Prop := match x with
  | .int _ n => K (.int k (k.wrap n))
  | _ => False
def pConvS (x : Value) (K : Value → Prop) : Prop := match x with
  | .string s => K (.string s)
  | _ => False
def pMin (x y : Value) (K : Value → Prop) : Prop := match x, y with
  | .int k a, .int k' b => k = k' ∧ K (.int k (min a b))
  | _, _ => False
def pMax (x y : Value) (K : Value → Prop) : Prop := match x, y with
  | .int k a, .int k' b => k = k' ∧ K (.int k (max a b))
  | _, _ => False
def pFieldAddr (off : Nat) (x : Value) (K : Value → Prop) : Prop := match x with
  | .pointer (some a) => K (.pointer (some (a.add off)))
  | _ => False
def pField1 (off : Nat) (x : Value) (K : Value → Prop) : Prop := match x with
  | .agg cs => match cs.toList[off]? with
    | some v => K v
    | none => False
  | _ => False
def pFieldN (off n : Nat) (x : Value) (K : Value → Prop) : Prop := match x with
  | .agg cs => K (.agg ((cs.toList.drop off).take n).toArray)
  | _ => False
def pExtract (i : Nat) (x : Value) (K : Value → Prop) : Prop := match x with
  | .tuple vs => match vs.toList[i]? with
    | some v => K v
    | none => False
  | _ => False
def pIdxArr (len size : Nat) (x i : Value) (K : Value → Prop) : Prop := match x, i with
  | .pointer (some a), .int _ j => 0 ≤ j ∧ j < (len : Int) ∧ K (.pointer (some (a.add (j.toNat * size))))
  | _, _ => False
def pIdxSl (size : Nat) (x i : Value) (K : Value → Prop) : Prop := match x, i with
  | .slice (some a) n _, .int _ j => 0 ≤ j ∧ j < (n : Int) ∧ K (.pointer (some (a.add (j.toNat * size))))
  | _, _ => False
def pIdxStr (x i : Value) (K : Value → Prop) : Prop := match x, i with
  | .string s, .int _ j => 0 ≤ j ∧ j < ((bys s).length : Int) ∧ K (.int .u8 (((bys s).getD j.toNat 0).toNat : Int))
  | _, _ => False
def pIdxAgg (len : Nat) (x i : Value) (K : Value → Prop) : Prop := match x, i with
  | .agg cs, .int _ j => 0 ≤ j ∧ j < (len : Int) ∧ (match cs.toList[j.toNat]? with
    | some v => K v
    | none => False)
  | _, _ => False
/-- an element of several cells of an array by value -/
def pIdxAggN (len n : Nat) (x i : Value) (K : Value → Prop) : Prop := match x, i with
  | .agg cs, .int _ j => 0 ≤ j ∧ j < (len : Int) ∧ K (.agg ((cs.toList.drop (j.toNat * n)).take n).toArray)
  | _, _ => False
/-- the bounds of a slice expression: low, high -/
def pBounds (len cap : Nat) (lo hi : Option Value) (Kb : Nat → Nat → Prop) : Prop := match lo, hi with
  | none, none => Kb 0 len
  | some (.int _ l), none => 0 ≤ l ∧ l ≤ (len : Int) ∧ Kb l.toNat len
  | none, some (.int _ h) => 0 ≤ h ∧ h ≤ (cap : Int) ∧ Kb 0 h.toNat
  | some (.int _ l), some (.int _ h) => 0 ≤ h ∧ h ≤ (cap : Int) ∧ 0 ≤ l ∧ l ≤ h ∧ Kb l.toNat h.toNat
  | _, _ => False
def pSlStr (x : Value) (lo hi : Option Value) (K : Value → Prop) : Prop := match x with
  | .string s => pBounds (bys s).length (bys s).length lo hi fun l h => K (str (((bys s).drop l).take (h - l)))
  | _ => False
def pSlSl (size : Nat) (x : Value) (lo hi : Option Value) (K : Value → Prop) : Prop := match x with
  | .slice a len cap => pBounds len cap lo hi fun l h => K (.slice (if cap = l then a else a.map (·.add (l * size))) (h - l) (cap - l))
  | _ => False
def pSlArr (n size : Nat) (x : Value) (lo hi : Option Value) (K : Value → Prop) : Prop := match x with
  | .pointer (some a) => pBounds n n lo hi fun l h => K (.slice (some (if n = l then a else a.add (l * size))) (h - l) (n - l))
  | _ => False
def pLenS (x : Value) (K : Value → Prop) : Prop := match x with
  | .string s => K (.int .i64 ((bys s).length : Int))
  | _ => False
def pLen (x : Value) (K : Value → Prop) : Prop := match x with
  | .slice _ n _ => K (.int .i64 (n : Int))
  | _ => False
def pCap (x : Value) (K : Value → Prop) : Prop := match x with
  | .slice _ _ c => K (.int .i64 (c : Int))
  | _ => False
def putL (cs : List Value) : Nat → List Value → List Value
  | _, [] => cs
  | off, v :: r => putL (cs.set off v) (off + 1) r
/-- a struct or an array of its zero value and parts: place, size, value -/
def pBuild : List Value → List (Nat × Nat × Value) → (Value → Prop) → Prop
  | cells, [], K => K (.agg cells.toArray)
  | cells, (off, size, v) :: r, K => v.cells.size = size ∧ off + size ≤ cells.length ∧ pBuild (putL cells off v.cells.toList) r K
end

/-! ### operations that read memory -/
section
variable (H : Heap)
def pLoad (x : Value) (K : Value → Prop) : Prop := match x with
  | .pointer (some a) => match cellAt H a with
    | some v => K v
    | none => False
  | _ => False
def pLoadN (n : Nat) (x : Value) (K : Value → Prop) : Prop := match x with
  | .pointer (some a) => match cellsAt H a n with
    | some l => K (.agg l.toArray)
    | none => False
  | _ => False
/-- a slice of bytes as a string -/
def bytesOf : List Value → Option (List UInt8)
  | [] => some []
  | .int .u8 n :: r => match bytesOf r with
    | some l => some (UInt8.ofNat n.toNat :: l)
    | none => none
  | _ :: _ => none
def pStrOf (x : Value) (K : Value → Prop) : Prop := match x with
  | .slice none _ _ => K (str [])
  | .slice (some a) n _ => match cellsAt H a n with
    | some l => match bytesOf l with
      | some b => K (str b)
      | none => False
    | none => False
  | _ => False
def entriesAt (x : Value) : Option (List MapEntry) := match x with
  | .map none => some []
  | .map (some r) => match H[r]? with
    | some (.map es _) => some es.toList
    | _ => none
  | _ => none
/-- is a key one of a map's, keys that are numbers or strings: the place, and what is there -/
def findE (kind : Nat) (k : Value) : List MapEntry → Nat → Option (Option (Nat × Value))
  | [], _ => some none
  | e :: es, i => match eqK kind k e.key with
    | some true => some (some (i, e.val))
    | some false => findE kind k es (i + 1)
    | none => none
def pLookup (kind : Nat) (zero : Value) (ok : Bool) (m k : Value) (K : Value → Prop) : Prop := match entriesAt H m with
  | some es => match findE kind k es 0 with
    | some (some (_, v)) => K (bif ok then .tuple #[v, .bool true] else v)
    | some none => K (bif ok then .tuple #[zero, .bool false] else zero)
    | none => False
  | none => False
def pLenM (x : Value) (K : Value → Prop) : Prop := match x with
  | .map none => K (.int .i64 0)
  | .map (some r) => match H[r]? with
    | some (.map es _) => K (.int .i64 (es.size : Int))
    | _ => False
  | _ => False
end

/-! ### operations that change memory -/
section
variable (H : Heap)
def pStore (x v : Value) (K : Value → Heap → Prop) : Prop := match x with
  | .pointer (some a) => match setsAt H a 0 [v] with
    | some H' => K undef H'
    | none => False
  | _ => False
def pStoreN (n : Nat) (x v : Value) (K : Value → Heap → Prop) : Prop := match x with
  | .pointer (some a) => v.cells.size = n ∧ match setsAt H a 0 v.cells.toList with
    | some H' => K undef H'
    | none => False
  | _ => False
def pBox (e : TypeId) (v : Value) (K : Value → Heap → Prop) : Prop := K (.pointer (some ⟨H.size, 0, none⟩)) (H.push (.cells v.cells e))
def pMakeMap (K : Value → Heap → Prop) : Prop := K (.map (some H.size)) (H.push (.map #[] 0))
def repL (z : List Value) : Nat → List Value
  | 0 => []
  | n + 1 => z ++ repL z n
def pMakeSl (e : TypeId) (bytes : Nat) (zero : List Value) (l c : Value) (K : Value → Heap → Prop) : Prop := match l, c with
  | .int .i64 n, .int .i64 m => 0 ≤ n ∧ n ≤ m ∧ (bytes : Int) * m ≤ 281474976710656 ∧ m ≤ 9223372036854775807 ∧
      K (.slice (some ⟨H.size, 0, none⟩) n.toNat m.toNat) (H.push (.cells (repL zero m.toNat).toArray e))
  | _, _ => False
def pBuildSl (e : TypeId) (len : Nat) (zero : List Value) (parts : List (Nat × Nat × Value)) (K : Value → Heap → Prop) : Prop :=
  pBuild zero parts (fun v => K (.slice (some ⟨H.size, 0, none⟩) len len) (H.push (.cells v.cells e)))
/-- a string's bytes in a new block: its size, what stands behind the bytes and a frozen cell are left open -/
def pBytes (e : TypeId) (x : Value) (K : Value → Heap → Prop) : Prop := match x with
  | .string s => ∀ cap : Nat, (bys s).length ≤ cap →
      K (.slice (some ⟨H.size, 0, none⟩) (bys s).length cap)
        (H.push (.cells (((bys s).map byteV) ++ List.replicate (cap - (bys s).length) (Value.int .u8 0)).toArray e (cap, cap + 1)))
  | _ => False
/-- what a slice or a string holds -/
def cellsOf (size : Nat) (x : Value) : Option (List Value) := match x with
  | .slice none _ _ => some []
  | .slice (some a) n _ => cellsAt H a (n * size)
  | .string s => some ((bys s).map byteV)
  | _ => none
def lenV : Value → Option Nat
  | .slice _ n _ => some n
  | .string s => some (bys s).length
  | _ => none
/-- the first k of a slice or a string -/
def takeV (k : Nat) : Value → Value
  | .slice a _ c => .slice a k c
  | .string t => str ((bys t).take k)
  | v => v
def pAppend (e : TypeId) (size bytes : Nat) (zero : List Value) (s x : Value) (K : Value → Heap → Prop) : Prop := match s, lenV x, cellsOf H size x with
  | .slice base n cap, some m, some new =>
    (n + m ≤ cap → match base with
      | none => K (.slice none (n + m) cap) H
      | some a => match setsAt H (a.add (n * size)) 0 new with
        | some H' => K (.slice (some a) (n + m) cap) H'
        | none => False) ∧
    (cap < n + m → 2 * (n + m) * bytes ≤ 281474976710656 ∧ match cellsOf H size (.slice base n cap) with
      | some old => ∀ c : Nat, n + m ≤ c → K (.slice (some ⟨H.size, 0, none⟩) (n + m) c) (H.push (.cells (old ++ new ++ repL zero (c - (n + m))).toArray e))
      | none => False)
  | _, _, _ => False
def pCopy (size : Nat) (d s : Value) (K : Value → Heap → Prop) : Prop := match d, lenV s with
  | .slice base n _, some m => match cellsOf H size (takeV (min m n) s) with
    | some new => match base with
      | none => K (.int .i64 (min m n : Nat)) H
      | some a => match setsAt H a 0 new with
        | some H' => K (.int .i64 (min m n : Nat)) H'
        | none => False
    | none => False
  | _, _ => False
def pMapSet (kind : Nat) (m k v : Value) (K : Value → Heap → Prop) : Prop := match m with
  | .map (some r) => match H[r]? with
    | some (.map es clock) => match findE kind k es.toList 0 with
      | some (some (i, _)) => K undef (H.setIfInBounds r (.map (es.modify i fun e => { e with key := k, val := v }) clock))
      | some none => K undef (H.setIfInBounds r (.map (es.push { key := k, val := v, born := clock }) (clock + 1)))
      | none => False
    | _ => False
  | _ => False
def pDelete (kind : Nat) (m k : Value) (K : Value → Heap → Prop) : Prop := match m with
  | .map (some r) => match H[r]? with
    | some (.map es clock) => match findE kind k es.toList 0 with
      | some (some (i, _)) => K (.tuple #[]) (H.setIfInBounds r (.map (es.eraseIdxIfInBounds i) clock))
      | some none => K (.tuple #[]) H
      | none => False
    | _ => False
  | _ => False
def pClearM (m : Value) (K : Value → Heap → Prop) : Prop := match m with
  | .map none => K (.tuple #[]) H
  | .map (some r) => match H[r]? with
    | some (.map _ clock) => K (.tuple #[]) (H.setIfInBounds r (.map #[] clock))
    | _ => False
  | _ => False
/-- clear of a slice: its cells are such again -/
def pClearS (z : List Value) (x : Value) (K : Value → Heap → Prop) : Prop := match x with
  | .slice none _ _ => K (.tuple #[]) H
  | .slice (some a) n _ => match setsAt H a 0 (repL z n) with
    | some H' => K (.tuple #[]) H'
    | none => False
  | _ => False
/-- how much waits in a channel -/
def pLenC (x : Value) (K : Value → Heap → Prop) : Prop := match x with
  | .chan none => K (.int .i64 0) H
  | .chan (some r) => match H[r]? with
    | some (.chan _ buf _ _ _ false) => K (.int .i64 (buf.size : Int)) H
    | _ => False
  | _ => False
/-- anything else: what the model's own operation does -/
def pSem (P : Program) (s : Sem Value) (K : Value → Heap → Prop) : Prop := ∀ w : World, w.heap = H → match s.run P w with
  | .ok v w' => Rest w w' ∧ K v w'.heap
  | .halt _ _ => False
end

/-! ### what an operation is, by the program's types -/
def isAggT (P : Program) (t : TypeId) : Bool := match P.underlying t with
  | some (.struct _) | some (.array _ _) => true
  | _ => false
def sizeT (P : Program) (t : TypeId) : Nat := match P.info? t with
  | some i => i.size
  | none => 0
def bytesT (P : Program) (t : TypeId) : Nat := match P.info? t with
  | some i => i.bytes
  | none => 0
def zeroT (P : Program) (t : TypeId) : Option Value := match P.info? t with
  | some i => i.zero
  | none => none
/-- a struct all of whose fields are numbers, bools, strings: the kinds of its cells -/
def flatF (P : Program) : List Field → Nat → Option (List Nat)
  | [], _ => some []
  | f :: r, off => bif Nat.beq f.offset off && f.name != "_" then match P.underlying f.type, P.info? f.type with
    | some d, some i => match kindD d with
      | some k => bif Nat.ble k 2 && Nat.beq i.size 1 then match flatF P r (off + 1) with
        | some l => some (k :: l)
        | none => none
        else none
      | none => none
    | _, _ => none
    else none
def flatT (P : Program) (t : TypeId) : Option (List Nat) := match P.underlying t with
  | some (.struct fs) => bif P.stoodInHeld t || P.eqGuardType P.depth t then none else flatF P fs.toList 0
  | _ => none
def clsB (P : Program) : Builtin → List TypeId → Nat
  | .len, t :: _ => match P.underlying t with
    | some (.map _ _) => 1
    | some (.chan _ _) => 2
    | _ => 0
  | .cap, _ | .min, _ | .max, _ => 0
  | _, _ => 2
/-- 0: it doesn't look at memory; 1: it reads; 2: it may change memory -/
def cls (P : Program) : Op → Nat
  | .move _ | .assign _ | .pick .. | .nilCheck _ | .binOp .. | .unOp .. | .fieldAddr .. | .field .. | .extract .. | .indexAddr .. | .index .. | .slice .. | .makeFunc .. | .build .. => 0
  | .convert s d _ => match P.underlying s, P.underlying d with
    | some (.slice _), some .string => 1
    | some .string, some (.slice _) => 2
    | some (.slice _), some (.slice _) => 2
    | _, _ => 0
  | .call c => match c.callee with
    | .builtin b => clsB P b c.argTypes.toList
    | _ => 2
  | .load .. | .lookup .. => 1
  | _ => 2

section
variable (P : Program) (ρ : Env)
def placesF (P : Program) : List Field → List (Nat × Nat)
  | [] => []
  | f :: r => (f.offset, sizeT P f.type) :: placesF P r
def infoAll (P : Program) : List Field → Bool
  | [] => true
  | f :: r => match P.info? f.type with
    | some _ => infoAll P r
    | none => false
def partsF (pl : List (Nat × Nat)) : List (Nat × Value) → Option (List (Nat × Nat × Value))
  | [] => some []
  | (i, v) :: r => match pl[i]? with
    | some (o, s) => match partsF pl r with
      | some l => some ((o, s, v) :: l)
      | none => none
    | none => none
def partsE (size : Nat) : List (Nat × Value) → List (Nat × Nat × Value)
  | [] => []
  | (i, v) :: r => (i * size, size, v) :: partsE size r
def cellsL : Value → List Value
  | .agg cs => cs.toList
  | v => [v]
def builtinV (b : Builtin) (ats : List TypeId) (args : List Operand) (K : Value → Prop) : Prop := match b, ats, args with
  | .len, [t], [x] => match P.underlying t with
    | some .string => pLenS (ev ρ x) K
    | some (.slice _) => pLen (ev ρ x) K
    | _ => False
  | .cap, [t], [x] => match P.underlying t with
    | some (.slice _) => pCap (ev ρ x) K
    | _ => False
  | .min, _, [x, y] => pMin (ev ρ x) (ev ρ y) K
  | .max, _, [x, y] => pMax (ev ρ x) (ev ρ y) K
  | .min, _, [x, y, z] => pMin (ev ρ x) (ev ρ y) (fun v => pMin v (ev ρ z) K)
  | _, _, _ => False
def opV (o : Op) (K : Value → Prop) : Prop := match o with
  | .move x | .assign x => K (ev ρ x)
  | .pick c a b => pPick (ev ρ c) (ev ρ a) (ev ρ b) K
  | .nilCheck x => pNil (ev ρ x) K
  | .binOp op t x y _ => match op with
    | .add => pAdd (ev ρ x) (ev ρ y) K
    | .sub => pSub (ev ρ x) (ev ρ y) K
    | .mul => pMul (ev ρ x) (ev ρ y) K
    | .quo => pQuo (ev ρ x) (ev ρ y) K
    | .rem => pRem (ev ρ x) (ev ρ y) K
    | .and => pBits .and (ev ρ x) (ev ρ y) K
    | .or => pBits .or (ev ρ x) (ev ρ y) K
    | .xor => pBits .xor (ev ρ x) (ev ρ y) K
    | .andNot => pBits .andNot (ev ρ x) (ev ρ y) K
    | .shl => pShl (ev ρ x) (ev ρ y) K
    | .shr => pShr (ev ρ x) (ev ρ y) K
    | .lss => pLt (ev ρ x) (ev ρ y) K
    | .leq => pLe (ev ρ x) (ev ρ y) K
    | .gtr => pGt (ev ρ x) (ev ρ y) K
    | .geq => pGe (ev ρ x) (ev ρ y) K
    | .eql => match P.underlying t with
      | some (.struct _) => match flatT P t with
        | some ks => pEqA ks (ev ρ x) (ev ρ y) K
        | none => False
      | some d => match kindD d with
        | some k => pEq k (ev ρ x) (ev ρ y) K
        | none => False
      | none => False
    | .neq => match P.underlying t with
      | some (.struct _) => match flatT P t with
        | some ks => pNeA ks (ev ρ x) (ev ρ y) K
        | none => False
      | some d => match kindD d with
        | some k => pNe k (ev ρ x) (ev ρ y) K
        | none => False
      | none => False
  | .unOp op _ x => match op with
    | .not => pNot (ev ρ x) K
    | .neg => pNeg (ev ρ x) K
    | .xor => pCom (ev ρ x) K
    | .plus => False
  | .convert s d x => match P.underlying s, P.underlying d with
    | some (.int _), some (.int k) => pConv k (ev ρ x) K
    | some .string, some .string => pConvS (ev ρ x) K
    | _, _ => False
  | .fieldAddr t x f => match P.underlying t with
    | some (.struct fs) => match fs.toList[f]? with
      | some fd => match P.info? fd.type with
        | some i => bif Nat.beq i.size 0 then False else pFieldAddr fd.offset (ev ρ x) K
        | none => False
      | none => False
    | _ => False
  | .field t x f => match P.underlying t with
    | some (.struct fs) => match fs.toList[f]? with
      | some fd => match P.underlying fd.type, P.info? fd.type with
        | some _, some i => bif isAggT P fd.type then pFieldN fd.offset i.size (ev ρ x) K else pField1 fd.offset (ev ρ x) K
        | _, _ => False
      | none => False
    | _ => False
  | .extract x i => pExtract i (ev ρ x) K
  | .indexAddr t x i => match P.underlying t with
    | some (.array n e) => match P.info? e with
      | some ti => pIdxArr n ti.size (ev ρ x) (ev ρ i) K
      | none => False
    | some (.slice e) => match P.info? e with
      | some ti => pIdxSl ti.size (ev ρ x) (ev ρ i) K
      | none => False
    | _ => False
  | .index t x i => match P.underlying t with
    | some .string => pIdxStr (ev ρ x) (ev ρ i) K
    | some (.array n e) => match P.underlying e, P.info? e with
      | some _, some ti => bif isAggT P e then pIdxAggN n ti.size (ev ρ x) (ev ρ i) K else bif Nat.beq ti.size 1 then pIdxAgg n (ev ρ x) (ev ρ i) K else False
      | _, _ => False
    | _ => False
  | .slice t x lo hi none => match P.underlying t with
    | some .string => pSlStr (ev ρ x) (evo ρ lo) (evo ρ hi) K
    | some (.slice e) => match P.info? e with
      | some ti => pSlSl ti.size (ev ρ x) (evo ρ lo) (evo ρ hi) K
      | none => False
    | some (.array n e) => match P.info? e with
      | some ti => pSlArr n ti.size (ev ρ x) (evo ρ lo) (evo ρ hi) K
      | none => False
    | _ => False
  | .makeFunc (.func f) first cap => K (.func (.func f) (evs ρ first.toList).toArray (evs ρ cap.toList).toArray)
  | .build t ps => match zeroT P t, P.underlying t with
    | some z, some (.struct fs) => match partsF (placesF P fs.toList) (evps ρ ps.toList) with
      | some parts => bif infoAll P fs.toList then pBuild (cellsL z) parts K else False
      | none => False
    | some z, some (.array _ e) => match P.info? e with
      | some ti => pBuild (cellsL z) (partsE ti.size (evps ρ ps.toList)) K
      | none => False
    | _, _ => False
  | .call c => match c.callee with
    | .builtin b => builtinV P ρ b c.argTypes.toList c.args.toList K
    | _ => False
  | _ => False
def opR (o : Op) (H : Heap) (K : Value → Prop) : Prop := match o with
  | .load t x => match P.underlying t, P.info? t with
    | some _, some i => bif isAggT P t then pLoadN H i.size (ev ρ x) K else pLoad H (ev ρ x) K
    | _, _ => False
  | .convert s d x => match P.underlying s, P.underlying d with
    | some (.slice e), some .string => match P.underlying e with
      | some (.int .u8) => pStrOf H (ev ρ x) K
      | _ => False
    | _, _ => False
  | .lookup t m k ok => match P.underlying t with
    | some (.map kt e) => match P.underlying kt, zeroT P e with
      | some (.int _), some z => pLookup H 0 z ok (ev ρ m) (ev ρ k) K
      | some .string, some z => pLookup H 1 z ok (ev ρ m) (ev ρ k) K
      | _, _ => False
    | _ => False
  | .call c => match c.callee, c.argTypes.toList, c.args.toList with
    | .builtin .len, [t], [x] => match P.underlying t with
      | some (.map _ _) => pLenM H (ev ρ x) K
      | _ => False
    | _, _, _ => False
  | _ => False
def callH (P : Program) (C : List Nat) (f : Value) (args : List Value) (H : Heap) (K : Value → Heap → Prop) : Prop := match f with
  | .func (.func g) first cap => bif memb g C then CallsH P g (first.toList ++ args ++ cap.toList).toArray H K else False
  | _ => False
def builtinE (b : Builtin) (ats : List TypeId) (args : List Operand) (H : Heap) (K : Value → Heap → Prop) : Prop := match b, args, ats with
  | .append, [s, x], [t, u] => match P.underlying t, P.underlying u with
    | some (.slice e), some (.slice _) | some (.slice e), some .string => match P.info? e, zeroT P e with
      | some i, some z => bif Nat.ble 1 i.bytes && Nat.ble 1 (cellsL z).length then pAppend H e i.size i.bytes (cellsL z) (ev ρ s) (ev ρ x) K else False
      | _, _ => False
    | _, _ => False
  | .copy, [d, s], [t, _] => match P.underlying t with
    | some (.slice e) => match P.info? e with
      | some i => pCopy H i.size (ev ρ d) (ev ρ s) K
      | none => False
    | _ => False
  | .delete, [m, k], [t, _] => match P.underlying t with
    | some (.map kt _) => match P.underlying kt with
      | some (.int _) => pDelete H 0 (ev ρ m) (ev ρ k) K
      | some .string => pDelete H 1 (ev ρ m) (ev ρ k) K
      | _ => False
    | _ => False
  | .clear, [m], [t] => match P.underlying t with
    | some (.map _ _) => pClearM H (ev ρ m) K
    | some (.slice e) => match zeroT P e with
      | some z => bif Nat.ble 1 (cellsL z).length then pClearS H (cellsL z) (ev ρ m) K else False
      | none => False
    | _ => False
  | .len, [x], [t] => match P.underlying t with
    | some (.chan _ _) => pLenC H (ev ρ x) K
    | _ => False
  | _, _, _ => False
/-- bytes that stand for a constant text: the cell behind their row is marked -/
def markFr (fr : Nat × Nat) (n : Nat) : Nat × Nat := if fr.1 == fr.2 then (n, n + 1) else (min fr.1 n, max fr.2 (n + 1))
def pMark (H : Heap) (x : Value) (K : Value → Heap → Prop) : Prop := match x with
  | .slice (some a) _ _ => match H[a.block]? with
    | some (.cells cs t fr) => K x (H.setIfInBounds a.block (.cells cs t (markFr fr cs.size)))
    | _ => False
  | _ => False
def opE (C : List Nat) (o : Op) (ty : TypeId) (H : Heap) (K : Value → Heap → Prop) : Prop := match o with
  | .store t x v => match P.underlying t, P.info? t with
    | some _, some i => bif isAggT P t then pStoreN H i.size (ev ρ x) (ev ρ v) K else bif Nat.beq i.size 1 then pStore H (ev ρ x) (ev ρ v) K else False
    | _, _ => False
  | .alloc e => match zeroT P e with
    | some z => pBox H e z K
    | none => False
  | .box e v => pBox H e (ev ρ v) K
  | .makeMap _ none => pMakeMap H K
  | .makeSlice t l c => match P.underlying t with
    | some (.slice e) => match P.info? e, zeroT P e with
      | some i, some z => bif Nat.beq (cellsL z).length i.size && Nat.ble 1 i.size then pMakeSl H e i.bytes (cellsL z) (ev ρ l) (ev ρ c) K else False
      | _, _ => False
    | _ => False
  | .buildSlice t len ps => match P.underlying t with
    | some (.slice e) => match P.info? e, zeroT P e with
      | some i, some z => bif Nat.ble (len * i.size) 16777216 && (Nat.beq (cellsL z).length i.size && Nat.ble 1 i.size) then pBuildSl H e len (repL (cellsL z) len) (partsE i.size (evps ρ ps.toList)) K else False
      | _, _ => False
    | _ => False
  | .convert s d x => match P.underlying s, P.underlying d with
    | some .string, some (.slice e) => match P.underlying e with
      | some (.int .u8) => pBytes H e (ev ρ x) K
      | _ => False
    | some (.slice e), some (.slice _) => match P.underlying e with
      | some (.int .u8) => bif Nat.beq s d then pMark H (ev ρ x) K else False
      | _ => False
    | _, _ => False
  | .mapUpdate t m k v => match P.underlying t with
    | some (.map kt _) => match P.underlying kt with
      | some (.int _) => pMapSet H 0 (ev ρ m) (ev ρ k) (ev ρ v) K
      | some .string => pMapSet H 1 (ev ρ m) (ev ρ k) (ev ρ v) K
      | _ => False
    | _ => False
  | .call c => match c.callee with
    | .value f => match f with
      | .func g => bif memb g C then CallsH P g (evs ρ c.args.toList).toArray H K else False
      | f => callH P C (ev ρ f) (evs ρ c.args.toList) H K
    | .builtin b => builtinE P ρ b c.argTypes.toList c.args.toList H K
    | _ => False
  | .makeChan t n => pSem H P (Instr.makeChan t (ev ρ n)) K
  | .range t x => pSem H P (Instr.range t (ev ρ x)) K
  | .next it s => pSem H P (Instr.next (ev ρ it) s ty) K
  | .entry it => pSem H P (Instr.entry (ev ρ it)) K
  | .mapEntry t m k => pSem H P (Instr.mapEntry t (ev ρ m) (ev ρ k)) K
  | .entryStore t m s v => pSem H P (do Instr.entryStore t (ev ρ m) (ev ρ s) (ev ρ v); pure undef) (fun _ => K undef)
  | _ => False
def opH (C : List Nat) (o : Oper) (H : Heap) (K : Value → Heap → Prop) : Prop := match cls P o.op with
  | 0 => opV P ρ o.op fun v => K v H
  | 1 => opR P ρ o.op H fun v => K v H
  | _ => opE P ρ C o.op o.type H K
end

/-! ### plans: how a region's operations are gone through -/
inductive Plan where
  | nil
  | op (i : Nat) (st : List Nat) (r : Plan)
  | grp (c : Nat) (body : Plan) (p : Nat) (r : Plan)
  | fork (a b : Plan)
def dstsOf (ops : List Oper) : Plan → List Nat
  | .nil => []
  | .op i _ r => match ops[i]? with
    | some o => match o.dst with
      | some d => d :: dstsOf ops r
      | none => dstsOf ops r
    | none => dstsOf ops r
  | .grp _ b p r => dstsOf ops b ++ (match ops[p]? with
    | some o => match o.dst with
      | some d => d :: dstsOf ops r
      | none => dstsOf ops r
    | none => dstsOf ops r)
  | .fork a b => dstsOf ops a ++ dstsOf ops b
/-- a && b -/
def pAnd (x : Value) (body : (Value → Heap → Prop) → Prop) (H : Heap) (K : Value → Heap → Prop) : Prop := match x with
  | .bool a => ∃ J : Value → Heap → Prop, (∀ v H', J v H' → K v H') ∧ (a = false → J (.bool false) H) ∧ (a = true → body J)
  | _ => False
/-- a || b -/
def pOr (x : Value) (body : (Value → Heap → Prop) → Prop) (H : Heap) (K : Value → Heap → Prop) : Prop := match x with
  | .bool a => ∃ J : Value → Heap → Prop, (∀ v H', J v H' → K v H') ∧ (a = true → J (.bool true) H) ∧ (a = false → body J)
  | _ => False
/-- an operation that is carried out where a test was so -/
def pIf (x : Value) (want : Bool) (yes no : Prop) : Prop := match x with
  | .bool a => (a = want → yes) ∧ (a = (!want) → no)
  | .tuple _ => no
  | _ => False
section
variable (P : Program) (C : List Nat) (ops : List Oper)
def reread (ρ : Env) (H : Heap) (j : Nat) : Prop := match ops[j]? with
  | some o => match o.dst with
    | some d => opR P ρ o.op H fun v => v = ρ d
    | none => False
  | none => False
def stabs (ρ : Env) (H : Heap) (X : Prop) : List Nat → Prop
  | [] => X
  | j :: r => reread P ops ρ H j ∧ stabs ρ H X r
def vcP : Plan → Env → Heap → (Env → Heap → Prop) → Prop
  | .nil, ρ, H, K => K ρ H
  | .op i st r, ρ, H, K => match ops[i]? with
    | some o => opH P ρ C o H fun v H' => stabs P ops ρ H' (vcP r (ρ.put o.dst v) H' K) st
    | none => False
  | .grp _ body p r, ρ, H, K => match ops[p]? with
    | some o => match o.op with
      | .pick (.tmp t) (.tmp u) (.const (.bool false)) =>
        pAnd (ρ t) (fun J => vcP body ρ H fun ρ' H' => J (ρ' u) H') H fun v H' => ∀ junk : Env, vcP r ((ρ.mix junk (dstsOf ops body)).put o.dst v) H' K
      | .pick (.tmp t) (.const (.bool true)) (.tmp u) =>
        pOr (ρ t) (fun J => vcP body ρ H fun ρ' H' => J (ρ' u) H') H fun v H' => ∀ junk : Env, vcP r ((ρ.mix junk (dstsOf ops body)).put o.dst v) H' K
      | _ => False
    | none => False
  | .fork a b, ρ, H, K => vcP a ρ H K ∧ vcP b ρ H K
end

/-! ### code -/
inductive Ann where
  | leaf
  | reg (p : Plan)
  | drw (Bs : List Nat) (p : Plan)
  | seq (a b : Ann)
  | cut (slots wr : List Nat) (a b : Ann)
  | cond (a b : Ann)
  | block (a : Ann)
  | loop (slots wr : List Nat) (a : Ann)
def pCond (x : Value) (A B : Prop) : Prop := match x with
  | .bool b => (b = true → A) ∧ (b = false → B)
  | _ => False
/-- predicates of some slots' values and a heap -/
def Curry : List Nat → Type
  | [] => Heap → Prop
  | _ :: s => Value → Curry s
def appl : (s : List Nat) → Curry s → Env → Heap → Prop
  | [], J, _, H => J H
  | t :: s, J, ρ, H => appl s (J (ρ t)) ρ H
def alls : List Nat → Env → (Env → Prop) → Prop
  | [], ρ, K => K ρ
  | t :: s, ρ, K => ∀ v : Value, alls s (ρ.upd t v) K
def CurryN : List Nat → Type
  | [] => Heap → Nat
  | _ :: s => Value → CurryN s
def applN : (s : List Nat) → CurryN s → Env → Heap → Nat
  | [], J, _, H => J H
  | t :: s, J, ρ, H => applN s (J (ρ t)) ρ H
inductive Ex where
  | normal
  | exit (id : Nat)
  | ret
def vc (P : Program) (C : List Nat) : Code → Ann → Env → Heap → (Ex → Env → Heap → Prop) → Prop
  | .skip, _, ρ, H, Q => Q .normal ρ H
  | .ret, _, ρ, H, Q => Q .ret ρ H
  | .exit id, _, ρ, H, Q => Q (.exit id) ρ H
  | .label _, _, ρ, H, Q => Q .normal ρ H
  | .scope x, a, ρ, H, Q => vc P C x a ρ H Q
  | .region _ ops _, .reg p, ρ, H, Q => vcP P C ops.toList p ρ H (Q .normal)
  | .region _ ops _, .drw _ p, ρ, H, Q => vcP P C ops.toList p ρ H (Q .normal)
  | .seq x y, .seq a b, ρ, H, Q => vc P C x a ρ H fun e ρ' H' => match e with
    | .normal => vc P C y b ρ' H' Q
    | e => Q e ρ' H'
  | .seq x y, .cut slots wr a b, ρ, H, Q => ∃ J : Curry slots,
      (∀ junk : Env, alls slots (ρ.mix junk wr) fun ρ' => ∀ H' : Heap, appl slots J ρ' H' → vc P C y b ρ' H' Q) ∧
      vc P C x a ρ H fun e ρ' H' => match e with
        | .normal => appl slots J ρ' H'
        | e => Q e ρ' H'
  | .cond c x y, .cond a b, ρ, H, Q => pCond (ev ρ c) (vc P C x a ρ H Q) (vc P C y b ρ H Q)
  | .block id x, .block a, ρ, H, Q => vc P C x a ρ H fun e ρ' H' => match e with
    | .exit k => bif Nat.beq k id then Q .normal ρ' H' else Q (.exit k) ρ' H'
    | e => Q e ρ' H'
  | .loop x, .loop slots wr a, ρ, H, Q => ∃ (I : Curry slots) (μ : CurryN slots), appl slots I ρ H ∧
      ∀ junk : Env, alls slots (ρ.mix junk wr) fun ρ0 => ∀ H0 : Heap, appl slots I ρ0 H0 →
        vc P C x a ρ0 H0 fun e ρ' H' => match e with
          | .normal => appl slots I ρ' H' ∧ applN slots μ ρ' H' < applN slots μ ρ0 H0
          | e => Q e ρ' H'
  | _, _, _, _, _ => False
/-- what a function hands back, of slots or of cells -/
def resH (P : Program) (ρ : Env) (H : Heap) (K : List Value → Prop) : List ResultVar → Prop
  | [] => K []
  | .tmp t :: r => resH P ρ H (fun l => K (ρ t :: l)) r
  | .cell a t :: r => match P.underlying t, P.info? t with
    | some _, some i => bif isAggT P t then pLoadN H i.size (ρ a) (fun v => resH P ρ H (fun l => K (v :: l)) r) else pLoad H (ρ a) (fun v => resH P ρ H (fun l => K (v :: l)) r)
    | _, _ => False
def oneOr : List Value → Value
  | [v] => v
  | l => .tuple l.toArray
def initEnv (args : List Value) : Env := fun t => match args[t]? with
  | some v => v
  | none => undef
def vcFn (P : Program) (C : List Nat) (fn : Func) (a : Ann) (args : List Value) (H : Heap) (R : Value → Heap → Prop) : Prop := match fn.body with
  | some c => vc P C c a (initEnv args) H fun e ρ H' => match e with
    | .exit _ => False
    | _ => resH P ρ H' (fun l => R (oneOr l) H') fn.results.toList
  | none => False
end Go.Vc
