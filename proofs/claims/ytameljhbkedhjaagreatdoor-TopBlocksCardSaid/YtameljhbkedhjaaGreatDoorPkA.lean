/- Part 1 of the proof of RowTopBlocks: what it is built on, in the order of its needs. -/
import Derived.Orders
import Derived.Laws.Sem
import Derived.RowKit3
import Derived.Laws.Entries
import Derived.Laws.Cells
import Derived.Laws.IdiomCopy
import Derived.Laws.StructEq
import Derived.Laws.BytesString
import Derived.Scope
namespace Go.Vc
open Go
abbrev Heap := Array Obj
abbrev Env := Nat → Value
abbrev str (l : List UInt8) : Value := .string ⟨l.toArray⟩
def bys (s : ByteArray) : List UInt8 := s.data.toList
@[simp] theorem bys_mk (l : List UInt8) : bys ⟨l.toArray⟩ = l := by simp [bys]
abbrev byteV (b : UInt8) : Value := .int .u8 (b.toNat : Int)
theorem str_bys (s : ByteArray) : Value.string s = str (bys s) := by cases s; simp [bys]
def memb (n : Nat) : List Nat → Bool
  | [] => false
  | m :: r => bif Nat.beq n m then true else memb n r
def Env.upd (ρ : Env) (t : Nat) (v : Value) : Env := fun s => bif Nat.beq s t then v else ρ s
def Env.put (ρ : Env) : Option Tmp → Value → Env
  | some t, v => ρ.upd t v
  | none, _ => ρ
def Env.mix (ρ junk : Env) (l : List Nat) : Env := fun s => bif memb s l then junk s else ρ s
def ev (ρ : Env) : Operand → Value
  | .tmp t => ρ t
  | .const v => v
  | .global g => .pointer (some ⟨g, 0, none⟩)
  | .func f => .func (.func f) #[] #[]
def evs (ρ : Env) : List Operand → List Value
  | [] => []
  | x :: r => ev ρ x :: evs ρ r
def evo (ρ : Env) : Option Operand → Option Value
  | none => none
  | some x => some (ev ρ x)
def evps (ρ : Env) : List (Nat × Operand) → List (Nat × Value)
  | [] => []
  | (i, x) :: r => (i, ev ρ x) :: evps ρ r
structure Rest (w w' : World) : Prop where
  os : w'.os = w.os
  output : w'.output = w.output
  tape : w'.tape = w.tape
  drawn : w.drawn ≤ w'.drawn
theorem Rest.refl (w : World) : Rest w w := ⟨rfl, rfl, rfl, Nat.le_refl _⟩
theorem Rest.trans {a b c : World} (h : Rest a b) (k : Rest b c) : Rest a c := ⟨k.os.trans h.os, k.output.trans h.output, k.tape.trans h.tape, Nat.le_trans h.drawn k.drawn⟩
def CallsH (P : Program) (f : FuncId) (args : Array Value) (H : Heap) (R : Value → Heap → Prop) : Prop :=
  ∀ w : World, w.heap = H → Calls P f args w fun e w' => ∃ v, e = .returned v ∧ Rest w w' ∧ R v w'.heap
theorem CallsH.mono {P : Program} {f : FuncId} {args : Array Value} {H : Heap} {R R' : Value → Heap → Prop} (h : CallsH P f args H R) (hr : ∀ v H', R v H' → R' v H') : CallsH P f args H R' :=
  fun w hw => (h w hw).mono fun _ _ ⟨v, he, hk, hv⟩ => ⟨v, he, hk, hr _ _ hv⟩
def cellAt (H : Heap) (a : Addr) : Option Value :=
  match H[a.block]? with
  | some (.cells c _ _) => if a.spot.isSome then none else c[a.off]?
  | _ => none
def frozenAt (H : Heap) (a : Addr) : Bool :=
  match H[a.block]? with
  | some (.cells _ _ (lo, hi)) => lo ≤ a.off && a.off < hi
  | _ => false
def setAt (H : Heap) (a : Addr) (v : Value) : Heap :=
  H.modify a.block fun
    | .cells c elem frozen => .cells (if a.spot.isSome then c else c.setIfInBounds a.off v) elem frozen
    | o => o
def oneCell : Value → Bool
  | .agg _ | .tuple _ => false
  | _ => true
def cellsAt (H : Heap) (a : Addr) : Nat → Option (List Value)
  | 0 => some []
  | n + 1 => match cellsAt H a n with
    | some l => match cellAt H (a.add n) with
      | some v => some (l ++ [v])
      | none => none
    | none => none
def setsAt (H : Heap) (a : Addr) : Nat → List Value → Option Heap
  | _, [] => some H
  | i, v :: r => match cellAt H (a.add i) with
    | some _ => bif frozenAt H (a.add i) then none else bif oneCell v then setsAt (setAt H (a.add i) v) a (i + 1) r else none
    | none => none
section
def pPick (c a b : Value) (K : Value → Prop) : Prop := match c with
  | .bool t => K (bif t then a else b)
  | _ => False
def pNil (x : Value) (K : Value → Prop) : Prop := match x with
  | .pointer (some a) => K (.pointer (some a))
  | .func (.func f) a b => K (.func (.func f) a b)
  | _ => False
def pAdd (x y : Value) (K : Value → Prop) : Prop := match x, y with
  | .int k a, .int k' b => k = k' ∧ K (.int k (k.wrap (a + b)))
  | .string a, .string b => a.size + b.size ≤ 9223372036854775807 ∧ K (str (bys a ++ bys b))
  | _, _ => False
def pSub (x y : Value) (K : Value → Prop) : Prop := match x, y with
  | .int k a, .int k' b => k = k' ∧ K (.int k (k.wrap (a - b)))
  | _, _ => False
def pMul (x y : Value) (K : Value → Prop) : Prop := match x, y with
  | .int k a, .int k' b => k = k' ∧ K (.int k (k.wrap (a * b)))
  | _, _ => False
def pQuo (x y : Value) (K : Value → Prop) : Prop := match x, y with
  | .int k a, .int k' b => k = k' ∧ b ≠ 0 ∧ K (.int k (k.wrap (a.tdiv b)))
  | _, _ => False
def pRem (x y : Value) (K : Value → Prop) : Prop := match x, y with
  | .int k a, .int k' b => k = k' ∧ b ≠ 0 ∧ K (.int k (a.tmod b))
  | _, _ => False
def bitsOf (op : BinOp) (k : IntKind) (x y : Int) : Int :=
  let a := BitVec.ofInt k.bits x
  let b := BitVec.ofInt k.bits y
  k.wrap (match op with
    | .and => (a &&& b).toNat
    | .or => (a ||| b).toNat
    | .xor => (a ^^^ b).toNat
    | _ => (a &&& ~~~b).toNat : Nat)
def pBits (op : BinOp) (x y : Value) (K : Value → Prop) : Prop := match x, y with
  | .int k a, .int k' b => k = k' ∧ K (.int k (bitsOf op k a b))
  | _, _ => False
def pShl (x y : Value) (K : Value → Prop) : Prop := match x, y with
  | .int k a, .int _ b => 0 ≤ b ∧ K (.int k (k.wrap (a * 2 ^ (min b.toNat k.bits))))
  | _, _ => False
def pShr (x y : Value) (K : Value → Prop) : Prop := match x, y with
  | .int k a, .int _ b => 0 ≤ b ∧ K (.int k (a.fdiv (2 ^ (min b.toNat k.bits))))
  | _, _ => False
def pLt (x y : Value) (K : Value → Prop) : Prop := match x, y with
  | .int k a, .int k' b => k = k' ∧ K (.bool (decide (a < b)))
  | _, _ => False
def pLe (x y : Value) (K : Value → Prop) : Prop := match x, y with
  | .int k a, .int k' b => k = k' ∧ K (.bool (decide (a ≤ b)))
  | _, _ => False
def pGt (x y : Value) (K : Value → Prop) : Prop := match x, y with
  | .int k a, .int k' b => k = k' ∧ K (.bool (decide (b < a)))
  | _, _ => False
def pGe (x y : Value) (K : Value → Prop) : Prop := match x, y with
  | .int k a, .int k' b => k = k' ∧ K (.bool (decide (b ≤ a)))
  | _, _ => False
def eqK : Nat → Value → Value → Option Bool
  | 0, .int k a, .int k' b => if k = k' then some (decide (a = b)) else none
  | 1, .string a, .string b => some (decide (bys a = bys b))
  | 2, .bool a, .bool b => some (decide (a = b))
  | 3, .pointer none, .pointer b => some b.isNone
  | 3, .pointer (some _), .pointer none => some false
  | 4, .slice none _ _, .slice b _ _ => some b.isNone
  | 4, .slice (some _) _ _, .slice none _ _ => some false
  | 5, .map none, .map b => some b.isNone
  | 5, .map (some _), .map none => some false
  | _, _, _ => none
def kindD : TypeDesc → Option Nat
  | .int _ => some 0
  | .string => some 1
  | .bool => some 2
  | .pointer _ => some 3
  | .slice _ => some 4
  | .map _ _ => some 5
  | _ => none
def pEq (k : Nat) (x y : Value) (K : Value → Prop) : Prop := match eqK k x y with
  | some b => K (.bool b)
  | none => False
def pNe (k : Nat) (x y : Value) (K : Value → Prop) : Prop := match eqK k x y with
  | some b => K (.bool (!b))
  | none => False
def eqCells : List Nat → List Value → List Value → Option Bool
  | [], [], [] => some true
  | k :: ks, x :: r, y :: s => match eqK k x y with
    | some b => match eqCells ks r s with
      | some c => some (b && c)
      | none => none
    | none => none
  | _, _, _ => none
def pEqA (ks : List Nat) (x y : Value) (K : Value → Prop) : Prop := match x, y with
  | .agg a, .agg b => match eqCells ks a.toList b.toList with
    | some c => K (.bool c)
    | none => False
  | _, _ => False
def pNeA (ks : List Nat) (x y : Value) (K : Value → Prop) : Prop := match x, y with
  | .agg a, .agg b => match eqCells ks a.toList b.toList with
    | some c => K (.bool (!c))
    | none => False
  | _, _ => False
def pNot (x : Value) (K : Value → Prop) : Prop := match x with
  | .bool b => K (.bool !b)
  | _ => False
def pNeg (x : Value) (K : Value → Prop) : Prop := match x with
  | .int k n => K (.int k (k.wrap (0 - n)))
  | _ => False
def pCom (x : Value) (K : Value → Prop) : Prop := match x with
  | .int k n => K (.int k (bitsOf .xor k (if k.signed then -1 else k.max) n))
  | _ => False
def pConv (k : IntKind) (x : Value) (K : Value → Prop) : Prop := match x with
  | .int _ n => K (.int k (k.wrap n))
  | _ => False
def pConvS (x : Value) (K : Value → Prop) : Prop := match x with
  | .string s => K (.string s)
  | _ => False
def pMin (x y : Value) (K : Value → Prop) : Prop := match x, y with
  | .int k a, .int k' b => k = k' ∧ K (.int k (min a b))
  | _, _ => False
def pMax (x y : Value) (K : Value → Prop) : Prop := match x, y with
  | .int k a, .int k' b => k = k' ∧ K (.int k (max a b))
  | _, _ => False
def pFieldAddr (off : Nat) (x : Value) (K : Value → Prop) : Prop := match x with
  | .pointer (some a) => K (.pointer (some (a.add off)))
  | _ => False
def pField1 (off : Nat) (x : Value) (K : Value → Prop) : Prop := match x with
  | .agg cs => match cs.toList[off]? with
    | some v => K v
    | none => False
  | _ => False
def pFieldN (off n : Nat) (x : Value) (K : Value → Prop) : Prop := match x with
  | .agg cs => K (.agg ((cs.toList.drop off).take n).toArray)
  | _ => False
def pExtract (i : Nat) (x : Value) (K : Value → Prop) : Prop := match x with
  | .tuple vs => match vs.toList[i]? with
    | some v => K v
    | none => False
  | _ => False
def pIdxArr (len size : Nat) (x i : Value) (K : Value → Prop) : Prop := match x, i with
  | .pointer (some a), .int _ j => 0 ≤ j ∧ j < (len : Int) ∧ K (.pointer (some (a.add (j.toNat * size))))
  | _, _ => False
def pIdxSl (size : Nat) (x i : Value) (K : Value → Prop) : Prop := match x, i with
  | .slice (some a) n _, .int _ j => 0 ≤ j ∧ j < (n : Int) ∧ K (.pointer (some (a.add (j.toNat * size))))
  | _, _ => False
def pIdxStr (x i : Value) (K : Value → Prop) : Prop := match x, i with
  | .string s, .int _ j => 0 ≤ j ∧ j < ((bys s).length : Int) ∧ K (.int .u8 (((bys s).getD j.toNat 0).toNat : Int))
  | _, _ => False
def pIdxAgg (len : Nat) (x i : Value) (K : Value → Prop) : Prop := match x, i with
  | .agg cs, .int _ j => 0 ≤ j ∧ j < (len : Int) ∧ (match cs.toList[j.toNat]? with
    | some v => K v
    | none => False)
  | _, _ => False
def pIdxAggN (len n : Nat) (x i : Value) (K : Value → Prop) : Prop := match x, i with
  | .agg cs, .int _ j => 0 ≤ j ∧ j < (len : Int) ∧ K (.agg ((cs.toList.drop (j.toNat * n)).take n).toArray)
  | _, _ => False
def pBounds (len cap : Nat) (lo hi : Option Value) (Kb : Nat → Nat → Prop) : Prop := match lo, hi with
  | none, none => Kb 0 len
  | some (.int _ l), none => 0 ≤ l ∧ l ≤ (len : Int) ∧ Kb l.toNat len
  | none, some (.int _ h) => 0 ≤ h ∧ h ≤ (cap : Int) ∧ Kb 0 h.toNat
  | some (.int _ l), some (.int _ h) => 0 ≤ h ∧ h ≤ (cap : Int) ∧ 0 ≤ l ∧ l ≤ h ∧ Kb l.toNat h.toNat
  | _, _ => False
def pSlStr (x : Value) (lo hi : Option Value) (K : Value → Prop) : Prop := match x with
  | .string s => pBounds (bys s).length (bys s).length lo hi fun l h => K (str (((bys s).drop l).take (h - l)))
  | _ => False
def pSlSl (size : Nat) (x : Value) (lo hi : Option Value) (K : Value → Prop) : Prop := match x with
  | .slice a len cap => pBounds len cap lo hi fun l h => K (.slice (if cap = l then a else a.map (·.add (l * size))) (h - l) (cap - l))
  | _ => False
def pSlArr (n size : Nat) (x : Value) (lo hi : Option Value) (K : Value → Prop) : Prop := match x with
  | .pointer (some a) => pBounds n n lo hi fun l h => K (.slice (some (if n = l then a else a.add (l * size))) (h - l) (n - l))
  | _ => False
def pLenS (x : Value) (K : Value → Prop) : Prop := match x with
  | .string s => K (.int .i64 ((bys s).length : Int))
  | _ => False
def pLen (x : Value) (K : Value → Prop) : Prop := match x with
  | .slice _ n _ => K (.int .i64 (n : Int))
  | _ => False
def pCap (x : Value) (K : Value → Prop) : Prop := match x with
  | .slice _ _ c => K (.int .i64 (c : Int))
  | _ => False
def putL (cs : List Value) : Nat → List Value → List Value
  | _, [] => cs
  | off, v :: r => putL (cs.set off v) (off + 1) r
def pBuild : List Value → List (Nat × Nat × Value) → (Value → Prop) → Prop
  | cells, [], K => K (.agg cells.toArray)
  | cells, (off, size, v) :: r, K => v.cells.size = size ∧ off + size ≤ cells.length ∧ pBuild (putL cells off v.cells.toList) r K
end
section
variable (H : Heap)
def pLoad (x : Value) (K : Value → Prop) : Prop := match x with
  | .pointer (some a) => match cellAt H a with
    | some v => K v
    | none => False
  | _ => False
def pLoadN (n : Nat) (x : Value) (K : Value → Prop) : Prop := match x with
  | .pointer (some a) => match cellsAt H a n with
    | some l => K (.agg l.toArray)
    | none => False
  | _ => False
def bytesOf : List Value → Option (List UInt8)
  | [] => some []
  | .int .u8 n :: r => match bytesOf r with
    | some l => some (UInt8.ofNat n.toNat :: l)
    | none => none
  | _ :: _ => none
def pStrOf (x : Value) (K : Value → Prop) : Prop := match x with
  | .slice none _ _ => K (str [])
  | .slice (some a) n _ => match cellsAt H a n with
    | some l => match bytesOf l with
      | some b => K (str b)
      | none => False
    | none => False
  | _ => False
def entriesAt (x : Value) : Option (List MapEntry) := match x with
  | .map none => some []
  | .map (some r) => match H[r]? with
    | some (.map es _) => some es.toList
    | _ => none
  | _ => none
def findE (kind : Nat) (k : Value) : List MapEntry → Nat → Option (Option (Nat × Value))
  | [], _ => some none
  | e :: es, i => match eqK kind k e.key with
    | some true => some (some (i, e.val))
    | some false => findE kind k es (i + 1)
    | none => none
def pLookup (kind : Nat) (zero : Value) (ok : Bool) (m k : Value) (K : Value → Prop) : Prop := match entriesAt H m with
  | some es => match findE kind k es 0 with
    | some (some (_, v)) => K (bif ok then .tuple #[v, .bool true] else v)
    | some none => K (bif ok then .tuple #[zero, .bool false] else zero)
    | none => False
  | none => False
def pLenM (x : Value) (K : Value → Prop) : Prop := match x with
  | .map none => K (.int .i64 0)
  | .map (some r) => match H[r]? with
    | some (.map es _) => K (.int .i64 (es.size : Int))
    | _ => False
  | _ => False
end
section
variable (H : Heap)
def pStore (x v : Value) (K : Value → Heap → Prop) : Prop := match x with
  | .pointer (some a) => match setsAt H a 0 [v] with
    | some H' => K undef H'
    | none => False
  | _ => False
def pStoreN (n : Nat) (x v : Value) (K : Value → Heap → Prop) : Prop := match x with
  | .pointer (some a) => v.cells.size = n ∧ match setsAt H a 0 v.cells.toList with
    | some H' => K undef H'
    | none => False
  | _ => False
def pBox (e : TypeId) (v : Value) (K : Value → Heap → Prop) : Prop := K (.pointer (some ⟨H.size, 0, none⟩)) (H.push (.cells v.cells e))
def pMakeMap (K : Value → Heap → Prop) : Prop := K (.map (some H.size)) (H.push (.map #[] 0))
def repL (z : List Value) : Nat → List Value
  | 0 => []
  | n + 1 => z ++ repL z n
def pMakeSl (e : TypeId) (bytes : Nat) (zero : List Value) (l c : Value) (K : Value → Heap → Prop) : Prop := match l, c with
  | .int .i64 n, .int .i64 m => 0 ≤ n ∧ n ≤ m ∧ (bytes : Int) * m ≤ 281474976710656 ∧ m ≤ 9223372036854775807 ∧
      K (.slice (some ⟨H.size, 0, none⟩) n.toNat m.toNat) (H.push (.cells (repL zero m.toNat).toArray e))
  | _, _ => False
def pBuildSl (e : TypeId) (len : Nat) (zero : List Value) (parts : List (Nat × Nat × Value)) (K : Value → Heap → Prop) : Prop :=
  pBuild zero parts (fun v => K (.slice (some ⟨H.size, 0, none⟩) len len) (H.push (.cells v.cells e)))
def pBytes (e : TypeId) (x : Value) (K : Value → Heap → Prop) : Prop := match x with
  | .string s => ∀ cap : Nat, (bys s).length ≤ cap →
      K (.slice (some ⟨H.size, 0, none⟩) (bys s).length cap)
        (H.push (.cells (((bys s).map byteV) ++ List.replicate (cap - (bys s).length) (Value.int .u8 0)).toArray e (cap, cap + 1)))
  | _ => False
def cellsOf (size : Nat) (x : Value) : Option (List Value) := match x with
  | .slice none _ _ => some []
  | .slice (some a) n _ => cellsAt H a (n * size)
  | .string s => some ((bys s).map byteV)
  | _ => none
def lenV : Value → Option Nat
  | .slice _ n _ => some n
  | .string s => some (bys s).length
  | _ => none
def takeV (k : Nat) : Value → Value
  | .slice a _ c => .slice a k c
  | .string t => str ((bys t).take k)
  | v => v
def pAppend (e : TypeId) (size bytes : Nat) (zero : List Value) (s x : Value) (K : Value → Heap → Prop) : Prop := match s, lenV x, cellsOf H size x with
  | .slice base n cap, some m, some new =>
    (n + m ≤ cap → match base with
      | none => K (.slice none (n + m) cap) H
      | some a => match setsAt H (a.add (n * size)) 0 new with
        | some H' => K (.slice (some a) (n + m) cap) H'
        | none => False) ∧
    (cap < n + m → 2 * (n + m) * bytes ≤ 281474976710656 ∧ match cellsOf H size (.slice base n cap) with
      | some old => ∀ c : Nat, n + m ≤ c → K (.slice (some ⟨H.size, 0, none⟩) (n + m) c) (H.push (.cells (old ++ new ++ repL zero (c - (n + m))).toArray e))
      | none => False)
  | _, _, _ => False
def pAppendZ (e : TypeId) (bytes : Nat) (zero : List Value) (s x : Value) (K : Value → Heap → Prop) : Prop := match s, x with
  | .slice none 0 0, .int .i64 n => (0 < n ∧ 2 * n.toNat * bytes ≤ 281474976710656) ∧ ∀ c : Nat, n.toNat ≤ c → K (.slice (some ⟨H.size, 0, none⟩) n.toNat c) (H.push (.cells (repL zero n.toNat ++ repL zero (c - n.toNat)).toArray e))
  | _, _ => False
def pCopy (size : Nat) (d s : Value) (K : Value → Heap → Prop) : Prop := match d, lenV s with
  | .slice base n _, some m => match cellsOf H size (takeV (min m n) s) with
    | some new => match base with
      | none => K (.int .i64 (min m n : Nat)) H
      | some a => match setsAt H a 0 new with
        | some H' => K (.int .i64 (min m n : Nat)) H'
        | none => False
    | none => False
  | _, _ => False
def pMapSet (kind : Nat) (m k v : Value) (K : Value → Heap → Prop) : Prop := match m with
  | .map (some r) => match H[r]? with
    | some (.map es clock) => match findE kind k es.toList 0 with
      | some (some (i, _)) => K undef (H.setIfInBounds r (.map (es.modify i fun e => { e with key := k, val := v }) clock))
      | some none => K undef (H.setIfInBounds r (.map (es.push { key := k, val := v, born := clock }) (clock + 1)))
      | none => False
    | _ => False
  | _ => False
def pDelete (kind : Nat) (m k : Value) (K : Value → Heap → Prop) : Prop := match m with
  | .map (some r) => match H[r]? with
    | some (.map es clock) => match findE kind k es.toList 0 with
      | some (some (i, _)) => K (.tuple #[]) (H.setIfInBounds r (.map (es.eraseIdxIfInBounds i) clock))
      | some none => K (.tuple #[]) H
      | none => False
    | _ => False
  | _ => False
def pClearM (m : Value) (K : Value → Heap → Prop) : Prop := match m with
  | .map none => K (.tuple #[]) H
  | .map (some r) => match H[r]? with
    | some (.map _ clock) => K (.tuple #[]) (H.setIfInBounds r (.map #[] clock))
    | _ => False
  | _ => False
def pClearS (z : List Value) (x : Value) (K : Value → Heap → Prop) : Prop := match x with
  | .slice none _ _ => K (.tuple #[]) H
  | .slice (some a) n _ => match setsAt H a 0 (repL z n) with
    | some H' => K (.tuple #[]) H'
    | none => False
  | _ => False
def pLenC (x : Value) (K : Value → Heap → Prop) : Prop := match x with
  | .chan none => K (.int .i64 0) H
  | .chan (some r) => match H[r]? with
    | some (.chan _ buf _ _ _ false) => K (.int .i64 (buf.size : Int)) H
    | _ => False
  | _ => False
def pSem (P : Program) (s : Sem Value) (K : Value → Heap → Prop) : Prop := ∀ w : World, w.heap = H → match s.run P w with
  | .ok v w' => Rest w w' ∧ K v w'.heap
  | .halt _ _ => False
end
def isAggT (P : Program) (t : TypeId) : Bool := match P.underlying t with
  | some (.struct _) | some (.array _ _) => true
  | _ => false
def sizeT (P : Program) (t : TypeId) : Nat := match P.info? t with
  | some i => i.size
  | none => 0
def zeroT (P : Program) (t : TypeId) : Option Value := match P.info? t with
  | some i => i.zero
  | none => none
def flatF (P : Program) : List Field → Nat → Option (List Nat)
  | [], _ => some []
  | f :: r, off => bif Nat.beq f.offset off && f.name != "_" then match P.underlying f.type, P.info? f.type with
    | some d, some i => match kindD d with
      | some k => bif Nat.ble k 2 && Nat.beq i.size 1 then match flatF P r (off + 1) with
        | some l => some (k :: l)
        | none => none
        else none
      | none => none
    | _, _ => none
    else none
def flatT (P : Program) (t : TypeId) : Option (List Nat) := match P.underlying t with
  | some (.struct fs) => bif P.stoodInHeld t || P.eqGuardType P.depth t then none else flatF P fs.toList 0
  | _ => none
def clsB (P : Program) : Builtin → List TypeId → Nat
  | .len, t :: _ => match P.underlying t with
    | some (.map _ _) => 1
    | some (.chan _ _) => 2
    | _ => 0
  | .cap, _ | .min, _ | .max, _ => 0
  | _, _ => 2
def cls (P : Program) : Op → Nat
  | .move _ | .assign _ | .pick .. | .nilCheck _ | .binOp .. | .unOp .. | .fieldAddr .. | .field .. | .extract .. | .indexAddr .. | .index .. | .slice .. | .makeFunc .. | .build .. => 0
  | .convert s d _ => match P.underlying s, P.underlying d with
    | some (.slice _), some .string => 1
    | some .string, some (.slice _) => 2
    | some (.slice _), some (.slice _) => 2
    | _, _ => 0
  | .call c => match c.callee with
    | .builtin b => clsB P b c.argTypes.toList
    | _ => 2
  | .load .. | .lookup .. => 1
  | _ => 2
section
variable (P : Program) (ρ : Env)
def placesF (P : Program) : List Field → List (Nat × Nat)
  | [] => []
  | f :: r => (f.offset, sizeT P f.type) :: placesF P r
def infoAll (P : Program) : List Field → Bool
  | [] => true
  | f :: r => match P.info? f.type with
    | some _ => infoAll P r
    | none => false
def partsF (pl : List (Nat × Nat)) : List (Nat × Value) → Option (List (Nat × Nat × Value))
  | [] => some []
  | (i, v) :: r => match pl[i]? with
    | some (o, s) => match partsF pl r with
      | some l => some ((o, s, v) :: l)
      | none => none
    | none => none
def partsE (size : Nat) : List (Nat × Value) → List (Nat × Nat × Value)
  | [] => []
  | (i, v) :: r => (i * size, size, v) :: partsE size r
def cellsL : Value → List Value
  | .agg cs => cs.toList
  | v => [v]
def builtinV (b : Builtin) (ats : List TypeId) (args : List Operand) (K : Value → Prop) : Prop := match b, ats, args with
  | .len, [t], [x] => match P.underlying t with
    | some .string => pLenS (ev ρ x) K
    | some (.slice _) => pLen (ev ρ x) K
    | _ => False
  | .cap, [t], [x] => match P.underlying t with
    | some (.slice _) => pCap (ev ρ x) K
    | _ => False
  | .min, _, [x, y] => pMin (ev ρ x) (ev ρ y) K
  | .max, _, [x, y] => pMax (ev ρ x) (ev ρ y) K
  | .min, _, [x, y, z] => pMin (ev ρ x) (ev ρ y) (fun v => pMin v (ev ρ z) K)
  | _, _, _ => False
def opV (o : Op) (K : Value → Prop) : Prop := match o with
  | .move x | .assign x => K (ev ρ x)
  | .pick c a b => pPick (ev ρ c) (ev ρ a) (ev ρ b) K
  | .nilCheck x => pNil (ev ρ x) K
  | .binOp op t x y _ => match op with
    | .add => pAdd (ev ρ x) (ev ρ y) K
    | .sub => pSub (ev ρ x) (ev ρ y) K
    | .mul => pMul (ev ρ x) (ev ρ y) K
    | .quo => pQuo (ev ρ x) (ev ρ y) K
    | .rem => pRem (ev ρ x) (ev ρ y) K
    | .and => pBits .and (ev ρ x) (ev ρ y) K
    | .or => pBits .or (ev ρ x) (ev ρ y) K
    | .xor => pBits .xor (ev ρ x) (ev ρ y) K
    | .andNot => pBits .andNot (ev ρ x) (ev ρ y) K
    | .shl => pShl (ev ρ x) (ev ρ y) K
    | .shr => pShr (ev ρ x) (ev ρ y) K
    | .lss => pLt (ev ρ x) (ev ρ y) K
    | .leq => pLe (ev ρ x) (ev ρ y) K
    | .gtr => pGt (ev ρ x) (ev ρ y) K
    | .geq => pGe (ev ρ x) (ev ρ y) K
    | .eql => match P.underlying t with
      | some (.struct _) => match flatT P t with
        | some ks => pEqA ks (ev ρ x) (ev ρ y) K
        | none => False
      | some d => match kindD d with
        | some k => pEq k (ev ρ x) (ev ρ y) K
        | none => False
      | none => False
    | .neq => match P.underlying t with
      | some (.struct _) => match flatT P t with
        | some ks => pNeA ks (ev ρ x) (ev ρ y) K
        | none => False
      | some d => match kindD d with
        | some k => pNe k (ev ρ x) (ev ρ y) K
        | none => False
      | none => False
  | .unOp op _ x => match op with
    | .not => pNot (ev ρ x) K
    | .neg => pNeg (ev ρ x) K
    | .xor => pCom (ev ρ x) K
    | .plus => False
  | .convert s d x => match P.underlying s, P.underlying d with
    | some (.int _), some (.int k) => pConv k (ev ρ x) K
    | some .string, some .string => pConvS (ev ρ x) K
    | _, _ => False
  | .fieldAddr t x f => match P.underlying t with
    | some (.struct fs) => match fs.toList[f]? with
      | some fd => match P.info? fd.type with
        | some i => bif Nat.beq i.size 0 then False else pFieldAddr fd.offset (ev ρ x) K
        | none => False
      | none => False
    | _ => False
  | .field t x f => match P.underlying t with
    | some (.struct fs) => match fs.toList[f]? with
      | some fd => match P.underlying fd.type, P.info? fd.type with
        | some _, some i => bif isAggT P fd.type then pFieldN fd.offset i.size (ev ρ x) K else pField1 fd.offset (ev ρ x) K
        | _, _ => False
      | none => False
    | _ => False
  | .extract x i => pExtract i (ev ρ x) K
  | .indexAddr t x i => match P.underlying t with
    | some (.array n e) => match P.info? e with
      | some ti => pIdxArr n ti.size (ev ρ x) (ev ρ i) K
      | none => False
    | some (.slice e) => match P.info? e with
      | some ti => pIdxSl ti.size (ev ρ x) (ev ρ i) K
      | none => False
    | _ => False
  | .index t x i => match P.underlying t with
    | some .string => pIdxStr (ev ρ x) (ev ρ i) K
    | some (.array n e) => match P.underlying e, P.info? e with
      | some _, some ti => bif isAggT P e then pIdxAggN n ti.size (ev ρ x) (ev ρ i) K else bif Nat.beq ti.size 1 then pIdxAgg n (ev ρ x) (ev ρ i) K else False
      | _, _ => False
    | _ => False
  | .slice t x lo hi none => match P.underlying t with
    | some .string => pSlStr (ev ρ x) (evo ρ lo) (evo ρ hi) K
    | some (.slice e) => match P.info? e with
      | some ti => pSlSl ti.size (ev ρ x) (evo ρ lo) (evo ρ hi) K
      | none => False
    | some (.array n e) => match P.info? e with
      | some ti => pSlArr n ti.size (ev ρ x) (evo ρ lo) (evo ρ hi) K
      | none => False
    | _ => False
  | .makeFunc (.func f) first cap => K (.func (.func f) (evs ρ first.toList).toArray (evs ρ cap.toList).toArray)
  | .build t ps => match zeroT P t, P.underlying t with
    | some z, some (.struct fs) => match partsF (placesF P fs.toList) (evps ρ ps.toList) with
      | some parts => bif infoAll P fs.toList then pBuild (cellsL z) parts K else False
      | none => False
    | some z, some (.array _ e) => match P.info? e with
      | some ti => pBuild (cellsL z) (partsE ti.size (evps ρ ps.toList)) K
      | none => False
    | _, _ => False
  | .call c => match c.callee with
    | .builtin b => builtinV P ρ b c.argTypes.toList c.args.toList K
    | _ => False
  | _ => False
def opR (o : Op) (H : Heap) (K : Value → Prop) : Prop := match o with
  | .load t x => match P.underlying t, P.info? t with
    | some _, some i => bif isAggT P t then pLoadN H i.size (ev ρ x) K else pLoad H (ev ρ x) K
    | _, _ => False
  | .convert s d x => match P.underlying s, P.underlying d with
    | some (.slice e), some .string => match P.underlying e with
      | some (.int .u8) => pStrOf H (ev ρ x) K
      | _ => False
    | _, _ => False
  | .lookup t m k ok => match P.underlying t with
    | some (.map kt e) => match P.underlying kt, zeroT P e with
      | some (.int _), some z => pLookup H 0 z ok (ev ρ m) (ev ρ k) K
      | some .string, some z => pLookup H 1 z ok (ev ρ m) (ev ρ k) K
      | _, _ => False
    | _ => False
  | .call c => match c.callee, c.argTypes.toList, c.args.toList with
    | .builtin .len, [t], [x] => match P.underlying t with
      | some (.map _ _) => pLenM H (ev ρ x) K
      | _ => False
    | _, _, _ => False
  | _ => False
def callH (P : Program) (C : List Nat) (f : Value) (args : List Value) (H : Heap) (K : Value → Heap → Prop) : Prop := match f with
  | .func (.func g) first cap => bif memb g C then CallsH P g (first.toList ++ args ++ cap.toList).toArray H K else False
  | _ => False
def builtinE (b : Builtin) (ats : List TypeId) (args : List Operand) (H : Heap) (K : Value → Heap → Prop) : Prop := match b, args, ats with
  | .append, [s, x], [t, u] => match P.underlying t, P.underlying u with
    | some (.slice e), some (.slice _) | some (.slice e), some .string => match P.info? e, zeroT P e with
      | some i, some z => bif Nat.ble 1 i.bytes && Nat.ble 1 (cellsL z).length then pAppend H e i.size i.bytes (cellsL z) (ev ρ s) (ev ρ x) K else False
      | _, _ => False
    | some (.slice e), some (.int _) => match P.info? e, zeroT P e with
      | some i, some z => bif Nat.ble 1 i.bytes && (Nat.ble 1 (cellsL z).length && Nat.ble 1 i.size) then pAppendZ H e i.bytes (cellsL z) (ev ρ s) (ev ρ x) K else False
      | _, _ => False
    | _, _ => False
  | .copy, [d, s], [t, _] => match P.underlying t with
    | some (.slice e) => match P.info? e with
      | some i => pCopy H i.size (ev ρ d) (ev ρ s) K
      | none => False
    | _ => False
  | .delete, [m, k], [t, _] => match P.underlying t with
    | some (.map kt _) => match P.underlying kt with
      | some (.int _) => pDelete H 0 (ev ρ m) (ev ρ k) K
      | some .string => pDelete H 1 (ev ρ m) (ev ρ k) K
      | _ => False
    | _ => False
  | .clear, [m], [t] => match P.underlying t with
    | some (.map _ _) => pClearM H (ev ρ m) K
    | some (.slice e) => match zeroT P e with
      | some z => bif Nat.ble 1 (cellsL z).length then pClearS H (cellsL z) (ev ρ m) K else False
      | none => False
    | _ => False
  | .len, [x], [t] => match P.underlying t with
    | some (.chan _ _) => pLenC H (ev ρ x) K
    | _ => False
  | _, _, _ => False
def markFr (fr : Nat × Nat) (n : Nat) : Nat × Nat := if fr.1 == fr.2 then (n, n + 1) else (min fr.1 n, max fr.2 (n + 1))
def pMark (H : Heap) (x : Value) (K : Value → Heap → Prop) : Prop := match x with
  | .slice (some a) _ _ => match H[a.block]? with
    | some (.cells cs t fr) => K x (H.setIfInBounds a.block (.cells cs t (markFr fr cs.size)))
    | _ => False
  | _ => False
def opE (C : List Nat) (o : Op) (ty : TypeId) (H : Heap) (K : Value → Heap → Prop) : Prop := match o with
  | .store t x v => match P.underlying t, P.info? t with
    | some _, some i => bif isAggT P t then pStoreN H i.size (ev ρ x) (ev ρ v) K else bif Nat.beq i.size 1 then pStore H (ev ρ x) (ev ρ v) K else False
    | _, _ => False
  | .alloc e => match zeroT P e with
    | some z => pBox H e z K
    | none => False
  | .box e v => pBox H e (ev ρ v) K
  | .makeMap _ none => pMakeMap H K
  | .makeSlice t l c => match P.underlying t with
    | some (.slice e) => match P.info? e, zeroT P e with
      | some i, some z => bif Nat.beq (cellsL z).length i.size && Nat.ble 1 i.size then pMakeSl H e i.bytes (cellsL z) (ev ρ l) (ev ρ c) K else False
      | _, _ => False
    | _ => False
  | .buildSlice t len ps => match P.underlying t with
    | some (.slice e) => match P.info? e, zeroT P e with
      | some i, some z => bif Nat.ble (len * i.size) 16777216 && (Nat.beq (cellsL z).length i.size && Nat.ble 1 i.size) then pBuildSl H e len (repL (cellsL z) len) (partsE i.size (evps ρ ps.toList)) K else False
      | _, _ => False
    | _ => False
  | .convert s d x => match P.underlying s, P.underlying d with
    | some .string, some (.slice e) => match P.underlying e with
      | some (.int .u8) => pBytes H e (ev ρ x) K
      | _ => False
    | some (.slice e), some (.slice _) => match P.underlying e with
      | some (.int .u8) => bif Nat.beq s d then pMark H (ev ρ x) K else False
      | _ => False
    | _, _ => False
  | .mapUpdate t m k v => match P.underlying t with
    | some (.map kt _) => match P.underlying kt with
      | some (.int _) => pMapSet H 0 (ev ρ m) (ev ρ k) (ev ρ v) K
      | some .string => pMapSet H 1 (ev ρ m) (ev ρ k) (ev ρ v) K
      | _ => False
    | _ => False
  | .call c => match c.callee with
    | .value f => match f with
      | .func g => bif memb g C then CallsH P g (evs ρ c.args.toList).toArray H K else False
      | f => callH P C (ev ρ f) (evs ρ c.args.toList) H K
    | .builtin b => builtinE P ρ b c.argTypes.toList c.args.toList H K
    | _ => False
  | .makeChan t n => pSem H P (Instr.makeChan t (ev ρ n)) K
  | .range t x => pSem H P (Instr.range t (ev ρ x)) K
  | .next it s => pSem H P (Instr.next (ev ρ it) s ty) K
  | .entry it => pSem H P (Instr.entry (ev ρ it)) K
  | .mapEntry t m k => pSem H P (Instr.mapEntry t (ev ρ m) (ev ρ k)) K
  | .entryStore t m s v => pSem H P (do Instr.entryStore t (ev ρ m) (ev ρ s) (ev ρ v); pure undef) (fun _ => K undef)
  | _ => False
def opH (C : List Nat) (o : Oper) (H : Heap) (K : Value → Heap → Prop) : Prop := match cls P o.op with
  | 0 => opV P ρ o.op fun v => K v H
  | 1 => opR P ρ o.op H fun v => K v H
  | _ => opE P ρ C o.op o.type H K
end
inductive Plan where
  | nil
  | op (i : Nat) (st : List Nat) (r : Plan)
  | grp (c : Nat) (body : Plan) (p : Nat) (r : Plan)
  | fork (a b : Plan)
def dstsOf (ops : List Oper) : Plan → List Nat
  | .nil => []
  | .op i _ r => match ops[i]? with
    | some o => match o.dst with
      | some d => d :: dstsOf ops r
      | none => dstsOf ops r
    | none => dstsOf ops r
  | .grp _ b p r => dstsOf ops b ++ (match ops[p]? with
    | some o => match o.dst with
      | some d => d :: dstsOf ops r
      | none => dstsOf ops r
    | none => dstsOf ops r)
  | .fork a b => dstsOf ops a ++ dstsOf ops b
def pAnd (x : Value) (body : (Value → Heap → Prop) → Prop) (H : Heap) (K : Value → Heap → Prop) : Prop := match x with
  | .bool a => ∃ J : Value → Heap → Prop, (∀ v H', J v H' → K v H') ∧ (a = false → J (.bool false) H) ∧ (a = true → body J)
  | _ => False
def pOr (x : Value) (body : (Value → Heap → Prop) → Prop) (H : Heap) (K : Value → Heap → Prop) : Prop := match x with
  | .bool a => ∃ J : Value → Heap → Prop, (∀ v H', J v H' → K v H') ∧ (a = true → J (.bool true) H) ∧ (a = false → body J)
  | _ => False
section
variable (P : Program) (C : List Nat) (ops : List Oper)
def reread (ρ : Env) (H : Heap) (j : Nat) : Prop := match ops[j]? with
  | some o => match o.dst with
    | some d => opR P ρ o.op H fun v => v = ρ d
    | none => False
  | none => False
def stabs (ρ : Env) (H : Heap) (X : Prop) : List Nat → Prop
  | [] => X
  | j :: r => reread P ops ρ H j ∧ stabs ρ H X r
def vcP : Plan → Env → Heap → (Env → Heap → Prop) → Prop
  | .nil, ρ, H, K => K ρ H
  | .op i st r, ρ, H, K => match ops[i]? with
    | some o => opH P ρ C o H fun v H' => stabs P ops ρ H' (vcP r (ρ.put o.dst v) H' K) st
    | none => False
  | .grp _ body p r, ρ, H, K => match ops[p]? with
    | some o => match o.op with
      | .pick (.tmp t) (.tmp u) (.const (.bool false)) =>
        pAnd (ρ t) (fun J => vcP body ρ H fun ρ' H' => J (ρ' u) H') H fun v H' => ∀ junk : Env, vcP r ((ρ.mix junk (dstsOf ops body)).put o.dst v) H' K
      | .pick (.tmp t) (.const (.bool true)) (.tmp u) =>
        pOr (ρ t) (fun J => vcP body ρ H fun ρ' H' => J (ρ' u) H') H fun v H' => ∀ junk : Env, vcP r ((ρ.mix junk (dstsOf ops body)).put o.dst v) H' K
      | _ => False
    | none => False
  | .fork a b, ρ, H, K => vcP a ρ H K ∧ vcP b ρ H K
end
inductive Ann where
  | leaf
  | reg (p : Plan)
  | drw (Bs : List Nat) (p : Plan)
  | seq (a b : Ann)
  | cut (slots wr : List Nat) (a b : Ann)
  | cond (a b : Ann)
  | block (a : Ann)
  | loop (slots wr : List Nat) (a : Ann)
def pCond (x : Value) (A B : Prop) : Prop := match x with
  | .bool b => (b = true → A) ∧ (b = false → B)
  | _ => False
def Curry : List Nat → Type
  | [] => Heap → Prop
  | _ :: s => Value → Curry s
def appl : (s : List Nat) → Curry s → Env → Heap → Prop
  | [], J, _, H => J H
  | t :: s, J, ρ, H => appl s (J (ρ t)) ρ H
def alls : List Nat → Env → (Env → Prop) → Prop
  | [], ρ, K => K ρ
  | t :: s, ρ, K => ∀ v : Value, alls s (ρ.upd t v) K
def CurryN : List Nat → Type
  | [] => Heap → Nat
  | _ :: s => Value → CurryN s
def applN : (s : List Nat) → CurryN s → Env → Heap → Nat
  | [], J, _, H => J H
  | t :: s, J, ρ, H => applN s (J (ρ t)) ρ H
inductive Ex where
  | normal
  | exit (id : Nat)
  | ret
def vc (P : Program) (C : List Nat) : Code → Ann → Env → Heap → (Ex → Env → Heap → Prop) → Prop
  | .skip, _, ρ, H, Q => Q .normal ρ H
  | .ret, _, ρ, H, Q => Q .ret ρ H
  | .exit id, _, ρ, H, Q => Q (.exit id) ρ H
  | .label _, _, ρ, H, Q => Q .normal ρ H
  | .scope x, a, ρ, H, Q => vc P C x a ρ H Q
  | .region _ ops _, .reg p, ρ, H, Q => vcP P C ops.toList p ρ H (Q .normal)
  | .region _ ops _, .drw _ p, ρ, H, Q => vcP P C ops.toList p ρ H (Q .normal)
  | .seq x y, .seq a b, ρ, H, Q => vc P C x a ρ H fun e ρ' H' => match e with
    | .normal => vc P C y b ρ' H' Q
    | e => Q e ρ' H'
  | .seq x y, .cut slots wr a b, ρ, H, Q => ∃ J : Curry slots,
      (∀ junk : Env, alls slots (ρ.mix junk wr) fun ρ' => ∀ H' : Heap, appl slots J ρ' H' → vc P C y b ρ' H' Q) ∧
      vc P C x a ρ H fun e ρ' H' => match e with
        | .normal => appl slots J ρ' H'
        | e => Q e ρ' H'
  | .cond c x y, .cond a b, ρ, H, Q => pCond (ev ρ c) (vc P C x a ρ H Q) (vc P C y b ρ H Q)
  | .block id x, .block a, ρ, H, Q => vc P C x a ρ H fun e ρ' H' => match e with
    | .exit k => bif Nat.beq k id then Q .normal ρ' H' else Q (.exit k) ρ' H'
    | e => Q e ρ' H'
  | .loop x, .loop slots wr a, ρ, H, Q => ∃ (I : Curry slots) (μ : CurryN slots), appl slots I ρ H ∧
      ∀ junk : Env, alls slots (ρ.mix junk wr) fun ρ0 => ∀ H0 : Heap, appl slots I ρ0 H0 →
        vc P C x a ρ0 H0 fun e ρ' H' => match e with
          | .normal => appl slots I ρ' H' ∧ applN slots μ ρ' H' < applN slots μ ρ0 H0
          | e => Q e ρ' H'
  | _, _, _, _, _ => False
def resH (P : Program) (ρ : Env) (H : Heap) (K : List Value → Prop) : List ResultVar → Prop
  | [] => K []
  | .tmp t :: r => resH P ρ H (fun l => K (ρ t :: l)) r
  | .cell a t :: r => match P.underlying t, P.info? t with
    | some _, some i => bif isAggT P t then pLoadN H i.size (ρ a) (fun v => resH P ρ H (fun l => K (v :: l)) r) else pLoad H (ρ a) (fun v => resH P ρ H (fun l => K (v :: l)) r)
    | _, _ => False
def oneOr : List Value → Value
  | [v] => v
  | l => .tuple l.toArray
def initEnv (args : List Value) : Env := fun t => match args[t]? with
  | some v => v
  | none => undef
def vcFn (P : Program) (C : List Nat) (fn : Func) (a : Ann) (args : List Value) (H : Heap) (R : Value → Heap → Prop) : Prop := match fn.body with
  | some c => vc P C c a (initEnv args) H fun e ρ H' => match e with
    | .exit _ => False
    | _ => resH P ρ H' (fun l => R (oneOr l) H') fn.results.toList
  | none => False
end Go.Vc
namespace Go.Vc
open Go
set_option linter.unusedSimpArgs false
set_option linter.unusedVariables false
section
variable {P : Program}
theorem run_und {t : TypeId} {d : TypeDesc} (h : P.underlying t = some d) (w : World) : (underlying t).run P w = .ok d w := run_underlying h w
theorem run_info {t : TypeId} {i : TypeInfo} (h : P.info? t = some i) (w : World) : (typeInfo t).run P w = .ok i w := by
  simp [typeInfo, h]
theorem run_size {t : TypeId} {i : TypeInfo} (h : P.info? t = some i) (w : World) : (Go.sizeOf t).run P w = .ok i.size w := by
  simp [Go.sizeOf, run_info h]
theorem run_zero {t : TypeId} {i : TypeInfo} {z : Value} (h : P.info? t = some i) (hz : i.zero = some z) (w : World) : (zeroValue t).run P w = .ok z w := by
  simp [zeroValue, run_info h, hz]
theorem run_isAgg {t : TypeId} {d : TypeDesc} (h : P.underlying t = some d) (w : World) : (isAgg t).run P w = .ok (isAggT P t) w := by
  simp only [isAgg, Sem.run_bind, run_und h, Result.andThen_ok, isAggT, h]
  cases d <;> rfl
theorem zeroT_some {t : TypeId} {z : Value} (h : zeroT P t = some z) : ∃ i, P.info? t = some i ∧ i.zero = some z := by
  unfold zeroT at h
  cases hi : P.info? t with
  | none => simp [hi] at h
  | some i => exact ⟨i, rfl, by simpa [hi] using h⟩
theorem run_eqGuard {op : BinOp} {t : TypeId} {x y : Operand} {a b : Value} {c : Bool} {k : Nat} (h : eqK k a b = some c) (w : World) : (eqGuard op t x y a b).run P w = .ok () w := by
  unfold eqGuard
  cases a <;> cases b <;> simp [eqK] at h <;> simp
theorem run_eqGuard' {op : BinOp} {t : TypeId} {x y : Operand} {a b : Value} (h : op ≠ .eql ∧ op ≠ .neq) (w : World) : (eqGuard op t x y a b).run P w = .ok () w := by
  unfold eqGuard
  cases op <;> simp_all
def BinRun (P : Program) (op : BinOp) (t : TypeId) (x y : Operand) (a b : Value) (K : Value → Prop) : Prop :=
  ∃ v, (∀ w, (do eqGuard op t x y a b; binOp op t a b : Sem Value).run P w = .ok v w) ∧ K v
theorem BinRun.of {op : BinOp} {t : TypeId} {x y : Operand} {a b v : Value} {K : Value → Prop} (hop : op ≠ .eql ∧ op ≠ .neq) (h : ∀ w, (binOp op t a b).run P w = .ok v w) (hv : K v) : BinRun P op t x y a b K :=
  ⟨v, fun w => by simp only [Sem.run_bind, run_eqGuard' hop, Result.andThen_ok, h], hv⟩
theorem bys_append (a b : ByteArray) : (⟨(bys a ++ bys b).toArray⟩ : ByteArray) = a ++ b := by
  cases a; cases b; simp [bys, ByteArray.ext_iff, ByteArray.data_append]
theorem bys_length (a : ByteArray) : (bys a).length = a.size := by cases a; simp [bys, ByteArray.size]
theorem toList_bys (s : ByteArray) : s.toList = bys s := by
  have hl : ∀ (n i : Nat) (r : List UInt8), s.size - i = n → ByteArray.toList.loop s i r = r.reverse ++ (bys s).drop i := by
    intro n
    induction n with
    | zero =>
      intro i r h
      unfold ByteArray.toList.loop
      rw [if_neg (by omega), List.drop_eq_nil_of_le (by rw [bys_length]; omega), List.append_nil]
    | succ n ih =>
      intro i r h
      unfold ByteArray.toList.loop
      rw [if_pos (by omega), ih (i + 1) _ (by omega)]
      have hi : i < (bys s).length := by rw [bys_length]; omega
      rw [List.drop_eq_getElem_cons hi, List.reverse_cons, List.append_assoc, List.singleton_append]
      congr 2
      cases s
      simp [bys, ByteArray.get!] at hi ⊢
      simp [hi]
  have := hl s.size 0 [] (by omega)
  simpa [ByteArray.toList] using this
theorem bys_eq (a b : ByteArray) : (a.toList == b.toList) = decide (bys a = bys b) := by
  have h : ∀ s : ByteArray, s.toList = bys s := toList_bys
  rw [h, h]
  by_cases e : bys a = bys b <;> simp [e]
theorem bys_inj {a b : ByteArray} : bys a = bys b ↔ a = b := by
  constructor
  · intro h; cases a; cases b; simp [bys] at h; simp [h]
  · rintro rfl; rfl
theorem byteArray_beq (a b : ByteArray) : (a == b) = decide (bys a = bys b) := by
  have h : (a == b) = (a.data == b.data) := by cases a; cases b; rfl
  rw [h, Bool.eq_iff_iff]
  simp [bys]
variable {t : TypeId} {x y : Operand} {a b : Value} {K : Value → Prop}
theorem pAdd_run (h : pAdd a b K) : BinRun P .add t x y a b K := by
  cases a <;> cases b <;> simp only [pAdd] at h
  · obtain ⟨rfl, hk⟩ := h
    exact .of (by simp) (fun w => by simp [binOp, Op.intArith]) hk
  · obtain ⟨hs, hk⟩ := h
    refine .of (by simp) (fun w => ?_) hk
    rename_i a b
    have hm : IntKind.i64.max = 9223372036854775807 := by decide
    have : ¬ ((a.size + b.size : Nat) : Int) > IntKind.i64.max := by rw [hm]; omega
    simp only [binOp, Op.stringOp, if_neg this, str, bys_append]
    rfl
theorem pSub_run (h : pSub a b K) : BinRun P .sub t x y a b K := by
  cases a <;> cases b <;> simp only [pSub] at h
  obtain ⟨rfl, hk⟩ := h
  exact .of (by simp) (fun w => by simp [binOp, Op.intArith]) hk
theorem pMul_run (h : pMul a b K) : BinRun P .mul t x y a b K := by
  cases a <;> cases b <;> simp only [pMul] at h
  obtain ⟨rfl, hk⟩ := h
  exact .of (by simp) (fun w => by simp [binOp, Op.intArith]) hk
theorem pQuo_run (h : pQuo a b K) : BinRun P .quo t x y a b K := by
  cases a <;> cases b <;> simp only [pQuo] at h
  obtain ⟨rfl, h0, hk⟩ := h
  exact .of (by simp) (fun w => by simp [binOp, Op.intDiv, h0]) hk
theorem pRem_run (h : pRem a b K) : BinRun P .rem t x y a b K := by
  cases a <;> cases b <;> simp only [pRem] at h
  obtain ⟨rfl, h0, hk⟩ := h
  exact .of (by simp) (fun w => by simp [binOp, Op.intDiv, h0]) hk
theorem pBits_run {op : BinOp} (hop : op = .and ∨ op = .or ∨ op = .xor ∨ op = .andNot) (h : pBits op a b K) : BinRun P op t x y a b K := by
  cases a <;> cases b <;> simp only [pBits] at h
  obtain ⟨rfl, hk⟩ := h
  rcases hop with rfl | rfl | rfl | rfl <;> exact .of (by simp) (fun w => by simp [binOp, Op.intBits, bitsOf]) hk
theorem pShl_run (h : pShl a b K) : BinRun P .shl t x y a b K := by
  cases a <;> cases b <;> simp only [pShl] at h
  obtain ⟨h0, hk⟩ := h
  exact .of (by simp) (fun w => by simp only [binOp, Op.shift]; rw [if_neg (by omega)]; rfl) hk
theorem pShr_run (h : pShr a b K) : BinRun P .shr t x y a b K := by
  cases a <;> cases b <;> simp only [pShr] at h
  obtain ⟨h0, hk⟩ := h
  exact .of (by simp) (fun w => by simp only [binOp, Op.shift]; rw [if_neg (by omega)]; rfl) hk
theorem pLt_run (h : pLt a b K) : BinRun P .lss t x y a b K := by
  cases a <;> cases b <;> simp only [pLt] at h
  obtain ⟨rfl, hk⟩ := h
  exact .of (by simp) (fun w => by simp [binOp, Op.intCmp]) hk
theorem pLe_run (h : pLe a b K) : BinRun P .leq t x y a b K := by
  cases a <;> cases b <;> simp only [pLe] at h
  obtain ⟨rfl, hk⟩ := h
  exact .of (by simp) (fun w => by simp [binOp, Op.intCmp]) hk
theorem pGt_run (h : pGt a b K) : BinRun P .gtr t x y a b K := by
  cases a <;> cases b <;> simp only [pGt] at h
  obtain ⟨rfl, hk⟩ := h
  exact .of (by simp) (fun w => by simp [binOp, Op.intCmp]) hk
theorem pGe_run (h : pGe a b K) : BinRun P .geq t x y a b K := by
  cases a <;> cases b <;> simp only [pGe] at h
  obtain ⟨rfl, hk⟩ := h
  exact .of (by simp) (fun w => by simp [binOp, Op.intCmp]) hk
theorem eqK0 {c : Bool} (h : eqK 0 a b = some c) : ∃ k m n, a = .int k m ∧ b = .int k n ∧ c = decide (m = n) := by
  cases a <;> simp only [eqK, reduceCtorEq] at h
  cases b <;> simp only [eqK, reduceCtorEq] at h
  split at h
  · rename_i e; subst e; exact ⟨_, _, _, rfl, rfl, by simpa using h.symm⟩
  · simp at h
theorem eqK1 {c : Bool} (h : eqK 1 a b = some c) : ∃ s t, a = .string s ∧ b = .string t ∧ c = decide (bys s = bys t) := by
  cases a <;> simp only [eqK, reduceCtorEq] at h
  cases b <;> simp only [eqK, reduceCtorEq] at h
  exact ⟨_, _, rfl, rfl, by simpa using h.symm⟩
theorem eqK2 {c : Bool} (h : eqK 2 a b = some c) : ∃ s t, a = .bool s ∧ b = .bool t ∧ c = decide (s = t) := by
  cases a <;> simp only [eqK, reduceCtorEq] at h
  cases b <;> simp only [eqK, reduceCtorEq] at h
  exact ⟨_, _, rfl, rfl, by simpa using h.symm⟩
theorem run_equalIn_of {d : TypeDesc} {n k : Nat} {c : Bool} (hu : P.underlying t = some d) (hd : kindD d = some k) (h : eqK k a b = some c) (w : World) :
    (Op.equalIn (n + 1) t a b).run P w = .ok c w := by
  have hr := run_und hu
  cases d <;> simp only [kindD, reduceCtorEq, Option.some.injEq] at hd <;> subst hd
  case bool =>
    obtain ⟨s, t, rfl, rfl, rfl⟩ := eqK2 h
    simp [Op.equalIn, hr]; cases s <;> cases t <;> rfl
  case int =>
    obtain ⟨k, m, n, rfl, rfl, rfl⟩ := eqK0 h
    simp [Op.equalIn, hr]
    rw [Bool.eq_iff_iff]; simp
  case string =>
    obtain ⟨s, t, rfl, rfl, rfl⟩ := eqK1 h
    simp [Op.equalIn, hr, byteArray_beq]
  case pointer =>
    cases a <;> (try simp only [eqK, reduceCtorEq] at h)
    rename_i p
    cases p <;> cases b <;> (try simp only [eqK, reduceCtorEq] at h)
    · simp [Op.equalIn, hr]; simpa using h
    · rename_i p q; cases q <;> simp [eqK] at h
      subst h; simp [Op.equalIn, hr]
  case slice =>
    cases a <;> (try simp only [eqK, reduceCtorEq] at h)
    rename_i p _ _
    cases p <;> cases b <;> (try simp only [eqK, reduceCtorEq] at h)
    · simp [Op.equalIn, hr]; simpa using h
    · rename_i q _ _; cases q <;> simp [eqK] at h
      subst h; simp [Op.equalIn, hr]
  case map =>
    cases a <;> (try simp only [eqK, reduceCtorEq] at h)
    rename_i p
    cases p <;> cases b <;> (try simp only [eqK, reduceCtorEq] at h)
    · simp [Op.equalIn, hr]; simpa using h
    · rename_i q; cases q <;> simp [eqK] at h
      subst h; simp [Op.equalIn, hr]
theorem run_eq_of {d : TypeDesc} {k : Nat} {c : Bool} (hu : P.underlying t = some d) (hd : kindD d = some k) (h : eqK k a b = some c) (w : World) :
    (binOp .eql t a b).run P w = .ok (.bool c) w ∧ (binOp .neq t a b).run P w = .ok (.bool !c) w := by
  have he := run_equalIn_of (n := 9999) hu hd h w
  cases d <;> simp only [kindD, reduceCtorEq, Option.some.injEq] at hd <;> subst hd
  case bool => obtain ⟨s, t, rfl, rfl, rfl⟩ := eqK2 h; constructor <;> simp only [binOp, Op.equal, Op.maxDepth, Sem.run_bind, he, Result.andThen_ok] <;> rfl
  case int =>
    obtain ⟨k, m, n, rfl, rfl, rfl⟩ := eqK0 h
    have : (m == n) = decide (m = n) := by rw [Bool.eq_iff_iff]; simp
    constructor <;> simp [binOp, Op.intCmp, bne, this]
  case string =>
    obtain ⟨s, t, rfl, rfl, rfl⟩ := eqK1 h
    constructor <;> simp [binOp, Op.stringOp, bys_eq]
  case pointer =>
    cases a <;> (try simp only [eqK, reduceCtorEq] at h)
    cases b <;> (try simp only [eqK, reduceCtorEq] at h)
    constructor <;> simp only [binOp, Op.equal, Op.maxDepth, Sem.run_bind, he, Result.andThen_ok] <;> rfl
  case slice =>
    cases a <;> (try simp only [eqK, reduceCtorEq] at h)
    cases b <;> (try simp only [eqK, reduceCtorEq] at h)
    constructor <;> simp only [binOp, Op.equal, Op.maxDepth, Sem.run_bind, he, Result.andThen_ok] <;> rfl
  case map =>
    cases a <;> (try simp only [eqK, reduceCtorEq] at h)
    cases b <;> (try simp only [eqK, reduceCtorEq] at h)
    constructor <;> simp only [binOp, Op.equal, Op.maxDepth, Sem.run_bind, he, Result.andThen_ok] <;> rfl
theorem pEq_run {d : TypeDesc} {k : Nat} (hu : P.underlying t = some d) (hd : kindD d = some k) (h : pEq k a b K) : BinRun P .eql t x y a b K := by
  unfold pEq at h
  split at h
  · rename_i c hc
    exact ⟨_, fun w => by simp only [Sem.run_bind, run_eqGuard hc, Result.andThen_ok, (run_eq_of hu hd hc w).1], h⟩
  · exact h.elim
theorem pNe_run {d : TypeDesc} {k : Nat} (hu : P.underlying t = some d) (hd : kindD d = some k) (h : pNe k a b K) : BinRun P .neq t x y a b K := by
  unfold pNe at h
  split at h
  · rename_i c hc
    exact ⟨_, fun w => by simp only [Sem.run_bind, run_eqGuard hc, Result.andThen_ok, (run_eq_of hu hd hc w).2], h⟩
  · exact h.elim
end
end Go.Vc
namespace Go.Vc
open Go
set_option linter.unusedSimpArgs false
set_option linter.unusedVariables false
section
variable {P : Program} {K : Value → Prop}
theorem run_part {t : TypeId} {d : TypeDesc} {cs : Array Value} {off : Nat} {v : Value} (hu : P.underlying t = some d) (ha : isAggT P t = false) (hv : cs[off]? = some v) (w : World) :
    (part t cs off).run P w = .ok v w := by
  simp [part, run_isAgg hu, ha, hv]
theorem run_partN {t : TypeId} {d : TypeDesc} {i : TypeInfo} {cs : Array Value} {off : Nat} (hu : P.underlying t = some d) (ha : isAggT P t = true) (hi : P.info? t = some i) (w : World) :
    (part t cs off).run P w = .ok (.agg (cs.extract off (off + i.size))) w := by
  simp [part, run_isAgg hu, ha, run_size hi]
theorem kind_notAgg {t : TypeId} {d : TypeDesc} {k : Nat} (hu : P.underlying t = some d) (hk : kindD d = some k) : isAggT P t = false := by
  unfold isAggT; rw [hu]; cases d <;> simp [kindD] at hk <;> rfl
theorem run_eqFields {xs ys : Array Value} (n : Nat) (w : World) : ∀ (fs : List Field) (off : Nat) (ks : List Nat) (c : Bool), flatF P fs off = some ks →
    eqCells ks (xs.toList.drop off) (ys.toList.drop off) = some c → (Op.eqFields (n + 1) xs ys fs).run P w = .ok c w := by
  intro fs
  induction fs with
  | nil =>
    intro off ks c hf hc
    simp only [flatF, Option.some.injEq] at hf
    subst hf
    generalize xs.toList.drop off = l at hc
    generalize ys.toList.drop off = m at hc
    cases l <;> cases m <;> simp [eqCells] at hc
    subst hc; simp [Op.eqFields]
  | cons f r ih =>
    intro off ks c hf hc
    simp only [flatF] at hf
    cases h1 : (Nat.beq f.offset off && f.name != "_") with
    | false => simp [h1] at hf
    | true =>
      rw [h1] at hf
      simp only [cond_true] at hf
      simp only [Bool.and_eq_true, bne_iff_ne, ne_eq] at h1
      obtain ⟨h1, hn⟩ := h1
      have h1 : f.offset = off := Nat.eq_of_beq_eq_true h1
      cases hu : P.underlying f.type with
      | none => simp [hu] at hf
      | some d =>
        cases hi : P.info? f.type with
        | none => simp [hu, hi] at hf
        | some i =>
          rw [hu, hi] at hf
          simp only at hf
          cases hk : kindD d with
          | none => simp [hk] at hf
          | some k =>
            rw [hk] at hf
            simp only at hf
            cases hb : (Nat.ble k 2 && Nat.beq i.size 1) with
            | false => simp [hb] at hf
            | true =>
              rw [hb] at hf
              simp only [cond_true] at hf
              cases hr : flatF P r (off + 1) with
              | none => simp [hr] at hf
              | some l =>
                rw [hr] at hf
                simp only [Option.some.injEq] at hf
                subst hf
                cases hx : xs.toList.drop off with
                | nil => simp [hx, eqCells] at hc
                | cons x xr =>
                  cases hy : ys.toList.drop off with
                  | nil => simp [hx, hy, eqCells] at hc
                  | cons y yr =>
                    rw [hx, hy] at hc
                    simp only [eqCells] at hc
                    cases he : eqK k x y with
                    | none => simp [he] at hc
                    | some b =>
                      rw [he] at hc
                      simp only at hc
                      cases hcs : eqCells l xr yr with
                      | none => simp [hcs] at hc
                      | some c' =>
                        rw [hcs] at hc
                        simp only [Option.some.injEq] at hc
                        subst hc
                        have gx : xs[off]? = some x := by
                          have := congrArg (·[0]?) hx; simpa using this
                        have gy : ys[off]? = some y := by
                          have := congrArg (·[0]?) hy; simpa using this
                        have dx : xs.toList.drop (off + 1) = xr := by rw [← List.drop_drop, hx]; rfl
                        have dy : ys.toList.drop (off + 1) = yr := by rw [← List.drop_drop, hy]; rfl
                        have hrec := ih (off + 1) l c' hr (by rw [dx, dy]; exact hcs)
                        have na := kind_notAgg hu hk
                        simp only [Op.eqFields, if_pos hn, Sem.run_bind, h1, run_part hu na gx, run_part hu na gy, Result.andThen_ok, run_equalIn_of hu hk he, Sem.run_ite, hrec]
                        cases b <;> simp
theorem pEqA_run {t : TypeId} {x y : Operand} {a b : Value} {ks : List Nat} (hf : flatT P t = some ks) (h : pEqA ks a b K) : BinRun P .eql t x y a b K := by
  cases a <;> simp only [pEqA] at h
  cases b <;> simp only [pEqA] at h
  rename_i xs ys
  unfold flatT at hf
  cases hu : P.underlying t with
  | none => simp [hu] at hf
  | some d =>
    rw [hu] at hf
    cases d <;> simp only [reduceCtorEq] at hf
    rename_i fs
    cases hb : (P.stoodInHeld t || P.eqGuardType P.depth t) with
    | true => simp [hb] at hf
    | false =>
      rw [hb] at hf
      simp only [cond_false] at hf
      simp only [Bool.or_eq_false_iff] at hb
      cases hc : eqCells ks xs.toList ys.toList with
      | none => simp [hc] at h
      | some c =>
        rw [hc] at h
        refine ⟨_, fun w => ?_, h⟩
        have hs : P.underlying t = some (.struct (P.fieldsOf t)) := by simp [Program.fieldsOf, hu]
        have hfs : (P.fieldsOf t).toList = fs.toList := by simp [Program.fieldsOf, hu]
        have := run_equalIn_struct (P := P) w 9999 t xs ys hs hb.1
        rw [hfs, run_eqFields 9998 w fs.toList 0 ks c hf (by simpa using hc)] at this
        simp only [Sem.run_bind, run_eqGuard_agg w .eql t x y xs ys hb.2, Result.andThen_ok, run_eql_struct, this]
theorem pNeA_run {t : TypeId} {x y : Operand} {a b : Value} {ks : List Nat} (hf : flatT P t = some ks) (h : pNeA ks a b K) : BinRun P .neq t x y a b K := by
  cases a <;> simp only [pNeA] at h
  cases b <;> simp only [pNeA] at h
  rename_i xs ys
  unfold flatT at hf
  cases hu : P.underlying t with
  | none => simp [hu] at hf
  | some d =>
    rw [hu] at hf
    cases d <;> simp only [reduceCtorEq] at hf
    rename_i fs
    cases hb : (P.stoodInHeld t || P.eqGuardType P.depth t) with
    | true => simp [hb] at hf
    | false =>
      rw [hb] at hf
      simp only [cond_false] at hf
      simp only [Bool.or_eq_false_iff] at hb
      cases hc : eqCells ks xs.toList ys.toList with
      | none => simp [hc] at h
      | some c =>
        rw [hc] at h
        refine ⟨_, fun w => ?_, h⟩
        have hs : P.underlying t = some (.struct (P.fieldsOf t)) := by simp [Program.fieldsOf, hu]
        have hfs : (P.fieldsOf t).toList = fs.toList := by simp [Program.fieldsOf, hu]
        have := run_equalIn_struct (P := P) w 9999 t xs ys hs hb.1
        rw [hfs, run_eqFields 9998 w fs.toList 0 ks c hf (by simpa using hc)] at this
        simp only [Sem.run_bind, run_eqGuard_agg w .neq t x y xs ys hb.2, Result.andThen_ok, run_neq_struct, this]
def VRun (P : Program) (s : Sem Value) (K : Value → Prop) : Prop := ∃ v, (∀ w, s.run P w = .ok v w) ∧ K v
theorem pFieldAddr_run {t : TypeId} {fs : Array Field} {f : Nat} {fd : Field} {i : TypeInfo} {x : Value} (hu : P.underlying t = some (.struct fs)) (hf : fs.toList[f]? = some fd)
    (hi : P.info? fd.type = some i) (h0 : Nat.beq i.size 0 = false) (h : pFieldAddr fd.offset x K) : VRun P (Instr.fieldAt t x f) K := by
  cases x <;> simp only [pFieldAddr] at h
  rename_i a
  cases a <;> simp only [pFieldAddr] at h
  refine ⟨_, fun w => ?_, h⟩
  have hf' : fs[f]? = some fd := by simpa using hf
  have hne : i.size ≠ 0 := by intro e; rw [e] at h0; exact absurd h0 (by decide)
  simp [Instr.fieldAt, run_und hu, hf', Instr.sureAddr, fieldPlace, run_size hi, hne]
theorem pField1_run {t : TypeId} {fs : Array Field} {f : Nat} {fd : Field} {d : TypeDesc} {x : Value} (hu : P.underlying t = some (.struct fs)) (hf : fs.toList[f]? = some fd)
    (hd : P.underlying fd.type = some d) (h0 : isAggT P fd.type = false) (h : pField1 fd.offset x K) : VRun P (Instr.field t x f) K := by
  cases x <;> simp only [pField1] at h
  split at h
  · rename_i cs v hv
    refine ⟨v, fun w => ?_, h⟩
    have hf' : fs[f]? = some fd := by simpa using hf
    simp [Instr.field, run_und hu, hf', asAgg, run_part hd h0 (v := v) (by simpa using hv)]
  · exact h.elim
theorem pFieldN_run {t : TypeId} {fs : Array Field} {f : Nat} {fd : Field} {d : TypeDesc} {i : TypeInfo} {x : Value} (hu : P.underlying t = some (.struct fs)) (hf : fs.toList[f]? = some fd)
    (hd : P.underlying fd.type = some d) (hi : P.info? fd.type = some i) (h0 : isAggT P fd.type = true) (h : pFieldN fd.offset i.size x K) : VRun P (Instr.field t x f) K := by
  cases x <;> simp only [pFieldN] at h
  rename_i cs
  refine ⟨_, fun w => ?_, h⟩
  have hf' : fs[f]? = some fd := by simpa using hf
  simp only [Instr.field, Sem.run_bind, run_und hu, Result.andThen_ok, hf', asAgg, Sem.run_pure, run_partN hd h0 hi]
  congr 2
  apply Array.ext'
  simp [List.take_drop, Nat.add_comm]
theorem pExtract_run {x : Value} {i : Nat} (h : pExtract i x K) : VRun P (Instr.extract x i) K := by
  cases x <;> simp only [pExtract] at h
  rename_i vs
  cases hv : vs.toList[i]? with
  | none => simp [hv] at h
  | some v =>
    rw [hv] at h
    refine ⟨v, fun w => ?_, h⟩
    have : vs[i]? = some v := by simpa using hv
    simp [Instr.extract, this]
theorem pIdxArr_run {t e : TypeId} {n : Nat} {ti : TypeInfo} {x i : Value} (hu : P.underlying t = some (.array n e)) (hi : P.info? e = some ti) (h : pIdxArr n ti.size x i K) : VRun P (Instr.indexAt t x i) K := by
  cases x <;> (try simp only [pIdxArr] at h)
  rename_i a
  cases a <;> (try simp only [pIdxArr] at h)
  cases i <;> simp only [pIdxArr] at h
  obtain ⟨h0, h1, hk⟩ := h
  exact ⟨_, fun w => by simp [Instr.indexAt, asIntOf, run_und hu, Instr.sureAddr, h0, h1, run_size hi], hk⟩
theorem pIdxSl_run {t e : TypeId} {ti : TypeInfo} {x i : Value} (hu : P.underlying t = some (.slice e)) (hi : P.info? e = some ti) (h : pIdxSl ti.size x i K) : VRun P (Instr.indexAt t x i) K := by
  cases x <;> (try simp only [pIdxSl] at h)
  rename_i a _ _
  cases a <;> (try simp only [pIdxSl] at h)
  cases i <;> simp only [pIdxSl] at h
  obtain ⟨h0, h1, hk⟩ := h
  exact ⟨_, fun w => by simp [Instr.indexAt, asIntOf, run_und hu, h0, h1, run_size hi], hk⟩
theorem pIdxStr_run {t : TypeId} {x i : Value} (hu : P.underlying t = some .string) (h : pIdxStr x i K) : VRun P (Instr.index t x i) K := by
  cases x <;> simp only [pIdxStr] at h
  cases i <;> simp only [pIdxStr] at h
  obtain ⟨h0, h1, hk⟩ := h
  rename_i s k j
  refine ⟨_, fun w => ?_, hk⟩
  have hl : j.toNat < s.size := by rw [bys_length] at h1; omega
  have hg : s[j.toNat]? = some ((bys s).getD j.toNat 0) := by
    rw [List.getD_eq_getElem?_getD]
    cases s with | mk d =>
    have hl' : j.toNat < d.size := hl
    simp [bys, getElem?_def, hl']
    exact ⟨hl, rfl⟩
  simp [Instr.index, asIntOf, run_und hu, h0, hg]
theorem pIdxAgg_run {t e : TypeId} {n : Nat} {d : TypeDesc} {ti : TypeInfo} {x i : Value} (hu : P.underlying t = some (.array n e)) (hd : P.underlying e = some d) (hi : P.info? e = some ti) (h0 : isAggT P e = false) (h1 : Nat.beq ti.size 1 = true)
    (h : pIdxAgg n x i K) : VRun P (Instr.index t x i) K := by
  cases x <;> simp only [pIdxAgg] at h
  cases i <;> simp only [pIdxAgg] at h
  obtain ⟨g0, g1, hk⟩ := h
  rename_i cs _ j
  cases hv : cs.toList[j.toNat]? with
  | none => simp [hv] at hk
  | some v =>
    rw [hv] at hk
    refine ⟨v, fun w => ?_, hk⟩
    have hs : ti.size = 1 := Nat.eq_of_beq_eq_true h1
    simp [Instr.index, asIntOf, run_und hu, g0, g1, run_size hi, hs, run_part hd h0 (v := v) (cs := cs) (off := j.toNat) (by simpa using hv)]
theorem pIdxAggN_run {t e : TypeId} {n : Nat} {d : TypeDesc} {ti : TypeInfo} {x i : Value} (hu : P.underlying t = some (.array n e)) (hd : P.underlying e = some d) (hi : P.info? e = some ti) (h0 : isAggT P e = true)
    (h : pIdxAggN n ti.size x i K) : VRun P (Instr.index t x i) K := by
  cases x <;> simp only [pIdxAggN] at h
  cases i <;> simp only [pIdxAggN] at h
  obtain ⟨g0, g1, hk⟩ := h
  rename_i cs _ j
  refine ⟨_, fun w => ?_, hk⟩
  simp only [Instr.index, asIntOf, Sem.run_bind, Sem.run_pure, run_und hu, Result.andThen_ok, run_size hi]
  rw [if_pos ⟨g0, g1⟩, Sem.run_bind, run_size hi, Result.andThen_ok, run_partN hd h0 hi]
  congr 2
  apply Array.ext'
  simp [List.take_drop, Nat.add_comm]
theorem run_bounds {isSlice : Bool} {len cap : Nat} {lo hi : Option Value} {Kb : Nat → Nat → Prop} (h : pBounds len cap lo hi Kb) : ∃ l g, (∀ w, (Instr.sliceBounds isSlice len cap lo hi none).run P w = .ok (l, g, cap) w) ∧ Kb l g := by
  cases lo with
  | none =>
    cases hi with
    | none => exact ⟨0, len, fun w => by simp [Instr.sliceBounds], h⟩
    | some b =>
      cases b <;> simp only [pBounds] at h
      obtain ⟨h0, h1, hk⟩ := h
      exact ⟨_, _, fun w => by simp [Instr.sliceBounds, Instr.sliceBound, asIntOf, h0, h1], hk⟩
  | some a =>
    cases a <;> cases hi with
    | none =>
      simp only [pBounds] at h <;>
      (obtain ⟨h0, h1, hk⟩ := h
       exact ⟨_, _, fun w => by simp [Instr.sliceBounds, Instr.sliceBound, asIntOf, h0, h1], hk⟩)
    | some b =>
      cases b <;> simp only [pBounds] at h <;>
      (obtain ⟨h0, h1, h2, h3, hk⟩ := h
       refine ⟨_, _, fun w => ?_, hk⟩
       simp [Instr.sliceBounds, Instr.sliceBound, asIntOf, h0, h1]
       omega)
theorem pSlStr_run {t : TypeId} {x : Value} {lo hi : Option Value} (hu : P.underlying t = some .string) (h : pSlStr x lo hi K) : VRun P (Instr.sliceAt t x lo hi none) K := by
  cases x <;> simp only [pSlStr] at h
  rename_i s
  obtain ⟨l, g, hr, hk⟩ := run_bounds (P := P) (isSlice := false) h
  refine ⟨_, fun w => ?_, hk⟩
  rw [bys_length] at hr
  have hs : s.extract l g = ⟨(((bys s).drop l).take (g - l)).toArray⟩ := by
    cases s with | mk d =>
    simp [bys, ByteArray.ext_iff, ByteArray.data_extract]
    apply Array.ext'
    simp [List.take_drop]
  simp only [Instr.sliceAt, Instr.slice, Sem.run_bind, run_und hu, Result.andThen_ok, hr, hs]
  simp [hr, hs]
theorem pSlSl_run {t e : TypeId} {ti : TypeInfo} {x : Value} {lo hi : Option Value} (hu : P.underlying t = some (.slice e)) (hi' : P.info? e = some ti) (h : pSlSl ti.size x lo hi K) : VRun P (Instr.sliceAt t x lo hi none) K := by
  cases x <;> simp only [pSlSl] at h
  obtain ⟨l, g, hr, hk⟩ := run_bounds (P := P) (isSlice := true) h
  refine ⟨_, fun w => ?_, hk⟩
  simp only [Instr.sliceAt, Instr.slice, Sem.run_bind, run_und hu, Result.andThen_ok, hr, run_size hi', Sem.run_pure]
theorem pSlArr_run {t e : TypeId} {n : Nat} {ti : TypeInfo} {x : Value} {lo hi : Option Value} (hu : P.underlying t = some (.array n e)) (hi' : P.info? e = some ti) (h : pSlArr n ti.size x lo hi K) : VRun P (Instr.sliceAt t x lo hi none) K := by
  cases x <;> simp only [pSlArr] at h
  rename_i a
  cases a <;> simp only [pSlArr] at h
  obtain ⟨l, g, hr, hk⟩ := run_bounds (P := P) (isSlice := false) h
  refine ⟨_, fun w => ?_, hk⟩
  simp only [Instr.sliceAt, Sem.run_bind, run_und hu, Result.andThen_ok, hr, run_size hi', Sem.run_pure, Instr.sureAddr]
theorem foldl_put (v : List Value) : ∀ (cs : Array Value) (off k : Nat), (v.zipIdx k).foldl (fun cs (x : Value × Nat) => cs.setIfInBounds (off + x.2) x.1) cs = (putL cs.toList (off + k) v).toArray := by
  induction v with
  | nil => intro cs off k; simp [putL]
  | cons x r ih =>
    intro cs off k
    simp only [List.zipIdx_cons, List.foldl_cons, putL]
    rw [ih]
    congr 1
    rw [Array.toList_setIfInBounds, Nat.add_assoc]
theorem pBuild_fill {places : Nat → Option (Nat × Nat)} : ∀ (ps : List (Nat × Nat × Value)) (parts : List (Nat × Value)) (cells : List Value),
    (∀ k : Nat, (parts[k]?).map (fun p => (places p.1, p.2)) = (ps[k]?).map fun q => (some (q.1, q.2.1), q.2.2)) →
    pBuild cells ps K → ∃ cs, Instr.fill places cells.toArray parts = some cs ∧ K (.agg cs) := by
  intro ps
  induction ps with
  | nil =>
    intro parts cells hp h
    cases parts with
    | nil => exact ⟨_, rfl, h⟩
    | cons p r => have := hp 0; simp at this
  | cons q ps ih =>
    intro parts cells hp h
    cases parts with
    | nil => have := hp 0; simp at this
    | cons p r =>
      obtain ⟨i, v⟩ := p
      obtain ⟨off, size, u⟩ := q
      have h0 := hp 0
      simp only [List.getElem?_cons_zero, Option.map_some, Option.some.injEq, Prod.mk.injEq] at h0
      obtain ⟨h0, rfl⟩ := h0
      simp only [pBuild] at h
      obtain ⟨h1, h2, h3⟩ := h
      obtain ⟨cs, hc, hk⟩ := ih r _ (fun k => by have := hp (k + 1); simpa using this) h3
      refine ⟨cs, ?_, hk⟩
      simp only [Instr.fill, h0]
      rw [if_neg (by simp [h1]; omega)]
      rw [← hc]
      congr 1
      have := foldl_put v.cells.toList cells.toArray off 0
      simp only [Nat.add_zero] at this
      rw [← this, ← Array.toList_zipIdx, Array.foldl_toList]
theorem cellsL_cells (z : Value) : (cellsL z).toArray = z.cells := by cases z <;> simp [cellsL, Value.cells]
theorem mapM_places {fs : List Field} (h : ∀ f ∈ fs, ∃ i, P.info? f.type = some i) (w : World) :
    (fs.mapM fun f => (do pure (f.offset, ← Go.sizeOf f.type) : Sem (Nat × Nat))).run P w = .ok (placesF P fs) w := by
  induction fs with
  | nil => simp [placesF]
  | cons f r ih =>
    obtain ⟨i, hi⟩ := h f (by simp)
    simp only [List.mapM_cons, Sem.run_bind, run_size hi, Result.andThen_ok, Sem.run_pure, ih (fun g hg => h g (by simp [hg])), placesF, sizeT, hi]
theorem partsF_get {pl : List (Nat × Nat)} : ∀ (vs : List (Nat × Value)) (ps : List (Nat × Nat × Value)), partsF pl vs = some ps →
    ∀ k : Nat, (vs[k]?).map (fun p => ((fun j => pl[j]?) p.1, p.2)) = (ps[k]?).map fun q => (some (q.1, q.2.1), q.2.2) := by
  intro vs
  induction vs with
  | nil => intro ps h k; simp only [partsF, Option.some.injEq] at h; subst h; simp
  | cons p r ih =>
    intro ps h k
    obtain ⟨i, v⟩ := p
    simp only [partsF] at h
    cases hp : pl[i]? with
    | none => simp [hp] at h
    | some q =>
      obtain ⟨o, s⟩ := q
      rw [hp] at h
      simp only at h
      cases hr : partsF pl r with
      | none => simp [hr] at h
      | some l =>
        rw [hr] at h
        simp only [Option.some.injEq] at h
        subst h
        cases k with
        | zero => simp [hp]
        | succ k => have := ih l hr k; simpa using this
theorem partsE_get {size : Nat} : ∀ (vs : List (Nat × Value)) (k : Nat), (vs[k]?).map (fun p => ((fun i => some (i * size, size)) p.1, p.2)) = ((partsE size vs)[k]?).map fun q => (some (q.1, q.2.1), q.2.2) := by
  intro vs
  induction vs with
  | nil => intro k; simp [partsE]
  | cons p r ih =>
    intro k
    obtain ⟨i, v⟩ := p
    cases k with
    | zero => simp [partsE]
    | succ k => have := ih k; simpa [partsE] using this
theorem infoAll_spec : ∀ {fs : List Field}, infoAll P fs = true → ∀ f ∈ fs, ∃ i, P.info? f.type = some i
  | [], _, f, hf => by simp at hf
  | g :: r, h, f, hf => by
    simp only [infoAll] at h
    cases hi : P.info? g.type with
    | none => simp [hi] at h
    | some i =>
      rw [hi] at h
      rcases List.mem_cons.1 hf with rfl | hf
      · exact ⟨i, hi⟩
      · exact infoAll_spec h f hf
theorem pBuildF_run {t : TypeId} {z : Value} {fs : Array Field} {vs : List (Nat × Value)} {ps : List (Nat × Nat × Value)} (hz : zeroT P t = some z) (hu : P.underlying t = some (.struct fs))
    (hi : ∀ f ∈ fs.toList, ∃ i, P.info? f.type = some i) (hp : partsF (placesF P fs.toList) vs = some ps) (h : pBuild (cellsL z) ps K) : VRun P (Instr.build t vs.toArray) K := by
  obtain ⟨cs, hc, hk⟩ := pBuild_fill (places := fun j => (placesF P fs.toList)[j]?) ps vs (cellsL z) (partsF_get vs ps hp) h
  refine ⟨_, fun w => ?_, hk⟩
  obtain ⟨i, hi', hz'⟩ := zeroT_some hz
  have hm : (fs.mapM fun f => (do pure (f.offset, ← Go.sizeOf f.type) : Sem (Nat × Nat))).run P w = .ok (placesF P fs.toList).toArray w := by
    rw [Array.mapM_eq_mapM_toList]
    simp only [Sem.run_map, mapM_places hi, Result.andThen_ok]
  simp only [Instr.build, Sem.run_bind, run_zero hi' hz', Result.andThen_ok, run_und hu, hm, Sem.run_pure]
  rw [← cellsL_cells]
  simp [hc]
theorem pBuildE_run {t e : TypeId} {n : Nat} {z : Value} {ti : TypeInfo} {vs : List (Nat × Value)} (hz : zeroT P t = some z) (hu : P.underlying t = some (.array n e))
    (hi : P.info? e = some ti) (h : pBuild (cellsL z) (partsE ti.size vs) K) : VRun P (Instr.build t vs.toArray) K := by
  obtain ⟨cs, hc, hk⟩ := pBuild_fill (places := fun i => some (i * ti.size, ti.size)) _ vs (cellsL z) (partsE_get vs) h
  refine ⟨_, fun w => ?_, hk⟩
  obtain ⟨i, hi', hz'⟩ := zeroT_some hz
  simp only [Instr.build, Sem.run_bind, run_zero hi' hz', Result.andThen_ok, run_und hu, run_size hi, Sem.run_pure]
  rw [← cellsL_cells]
  simp [hc]
theorem evps_eq (ρ : Env) : ∀ ps : List (Nat × Operand), evps ρ ps = ps.map fun (i, x) => (i, ev ρ x)
  | [] => rfl
  | (i, x) :: r => by simp [evps, evps_eq ρ r]
theorem evs_eq (ρ : Env) : ∀ xs : List Operand, evs ρ xs = xs.map (ev ρ)
  | [] => rfl
  | x :: r => by simp [evs, evs_eq ρ r]
theorem evo_eq (ρ : Env) : ∀ x : Option Operand, evo ρ x = x.map (ev ρ)
  | none => rfl
  | some _ => rfl
theorem VRun.exec {o : Oper} {ρ : Operand → Value} {s : Sem Value} (he : execOp ρ o = (do pure (.value (← s)))) (h : VRun P s K) : ∃ v, (∀ w, (execOp ρ o).run P w = .ok (.value v) w) ∧ K v := by
  obtain ⟨v, hr, hk⟩ := h
  exact ⟨v, fun w => by rw [he]; simp [hr], hk⟩
theorem pPick_run {c a b : Value} (h : pPick c a b K) : VRun P (do pure (if ← asBool c then a else b)) K := by
  cases c <;> simp only [pPick] at h
  rename_i t
  cases t <;> exact ⟨_, fun w => by simp [asBool], h⟩
theorem opV_sound {dst : Option Tmp} {op : Op} {ty : TypeId} {pos : String} {af : Array Edge} {g : Option (Nat × Bool)} {ρ : Env} (h : opV P ρ op K) :
    ∃ v, (∀ w, (execOp (ev ρ) ⟨dst, op, ty, pos, af, g⟩).run P w = .ok (.value v) w) ∧ K v := by
  cases op <;> simp only [opV] at h
  case move x => exact ⟨_, fun w => rfl, h⟩
  case assign x => exact ⟨_, fun w => rfl, h⟩
  case pick c a b => exact (pPick_run h).exec (by simp [execOp])
  case nilCheck x =>
    simp only [pNil] at h
    split at h
    · rename_i a hx
      exact ⟨_, fun w => by simp only [execOp, hx]; rfl, h⟩
    · rename_i f a b hx
      exact ⟨_, fun w => by simp only [execOp, hx]; rfl, h⟩
    · exact h.elim
  case binOp op t x y yt =>
    have key : ∀ {op : BinOp}, BinRun P op t x y (ev ρ x) (ev ρ y) K → ∃ v, (∀ w, (execOp (ev ρ) ⟨dst, .binOp op t x y yt, ty, pos, af, g⟩).run P w = .ok (.value v) w) ∧ K v :=
      fun h => VRun.exec (s := do eqGuard _ t x y (ev ρ x) (ev ρ y); binOp _ t (ev ρ x) (ev ρ y)) rfl h
    cases op <;> simp only at h
    case add => exact key (pAdd_run h)
    case sub => exact key (pSub_run h)
    case mul => exact key (pMul_run h)
    case quo => exact key (pQuo_run h)
    case rem => exact key (pRem_run h)
    case and => exact key (pBits_run (by simp) h)
    case or => exact key (pBits_run (by simp) h)
    case xor => exact key (pBits_run (by simp) h)
    case andNot => exact key (pBits_run (by simp) h)
    case shl => exact key (pShl_run h)
    case shr => exact key (pShr_run h)
    case lss => exact key (pLt_run h)
    case leq => exact key (pLe_run h)
    case gtr => exact key (pGt_run h)
    case geq => exact key (pGe_run h)
    case eql =>
      split at h
      · split at h
        · rename_i ks hks; exact key (pEqA_run hks h)
        · exact h.elim
      · rename_i d _ hd
        split at h
        · rename_i k hk; exact key (pEq_run hd hk h)
        · exact h.elim
      · exact h.elim
    case neq =>
      split at h
      · split at h
        · rename_i ks hks; exact key (pNeA_run hks h)
        · exact h.elim
      · rename_i d _ hd
        split at h
        · rename_i k hk; exact key (pNe_run hd hk h)
        · exact h.elim
      · exact h.elim
  case unOp op t x =>
    cases op <;> simp only at h
    case not =>
      generalize hx : ev ρ x = vx at h
      cases vx <;> simp only [pNot] at h
      exact ⟨_, fun w => by simp [execOp, hx, Op.unary], h⟩
    case neg =>
      generalize hx : ev ρ x = vx at h
      cases vx <;> simp only [pNeg] at h
      exact ⟨_, fun w => by simp only [execOp, hx, Op.unary, Op.intArith]; rfl, h⟩
    case xor =>
      generalize hx : ev ρ x = vx at h
      cases vx <;> simp only [pCom] at h
      exact ⟨_, fun w => by simp only [execOp, hx, Op.unary, Op.intBits, bitsOf]; rfl, h⟩
  case convert s d x =>
    generalize hx : ev ρ x = vx at h
    split at h
    · rename_i k hd hk
      cases vx <;> simp only [pConv] at h
      exact ⟨_, fun w => by simp [execOp, hx, convert, run_und hd, run_und hk, Conv.intToInt], h⟩
    · rename_i hd hk
      cases vx <;> simp only [pConvS] at h
      exact ⟨_, fun w => by simp [execOp, hx, convert, run_und hd, run_und hk], h⟩
    · exact h.elim
  case fieldAddr t x f =>
    split at h
    · rename_i fs hu
      split at h
      · rename_i fd hf
        split at h
        · rename_i i hi
          cases hb : Nat.beq i.size 0 with
          | true => rw [hb] at h; exact h.elim
          | false => rw [hb] at h; exact (pFieldAddr_run hu hf hi hb h).exec rfl
        · exact h.elim
      · exact h.elim
    · exact h.elim
  case field t x f =>
    split at h
    · rename_i fs hu
      split at h
      · rename_i fd hf
        split at h
        · rename_i d i hd hi
          cases hb : isAggT P fd.type with
          | true => rw [hb] at h; exact (pFieldN_run hu hf hd hi hb h).exec rfl
          | false => rw [hb] at h; exact (pField1_run hu hf hd hb h).exec rfl
        · exact h.elim
      · exact h.elim
    · exact h.elim
  case extract x i => exact (pExtract_run h).exec rfl
  case indexAddr t x i =>
    split at h
    · rename_i n e hu
      split at h
      · rename_i ti hi; exact (pIdxArr_run hu hi h).exec rfl
      · exact h.elim
    · rename_i e hu
      split at h
      · rename_i ti hi; exact (pIdxSl_run hu hi h).exec rfl
      · exact h.elim
    · exact h.elim
  case index t x i =>
    split at h
    · rename_i hu; exact (pIdxStr_run hu h).exec rfl
    · rename_i n e hu
      split at h
      · rename_i d ti hd hi
        cases hb : isAggT P e with
        | true => rw [hb] at h; exact (pIdxAggN_run hu hd hi hb h).exec rfl
        | false =>
          rw [hb] at h
          cases h1 : Nat.beq ti.size 1 with
          | false => rw [h1] at h; exact h.elim
          | true => rw [h1] at h; exact (pIdxAgg_run hu hd hi hb h1 h).exec rfl
      · exact h.elim
    · exact h.elim
  case slice t x lo hi mx =>
    cases mx with
    | some m => exact h.elim
    | none =>
      simp only at h
      split at h
      · rename_i hu; exact (pSlStr_run hu h).exec (by simp [execOp, evo_eq])
      · rename_i e hu
        split at h
        · rename_i ti hti; exact (pSlSl_run hu hti h).exec (by simp [execOp, evo_eq])
        · exact h.elim
      · rename_i n e hu
        split at h
        · rename_i ti hti; exact (pSlArr_run hu hti h).exec (by simp [execOp, evo_eq])
        · exact h.elim
      · exact h.elim
  case makeFunc fn first cap =>
    cases fn <;> first | (refine ⟨_, fun w => ?_, h⟩) | exact h.elim
    have e : ∀ a : Array Operand, (evs ρ a.toList).toArray = a.map (ev ρ) := fun a => by rw [evs_eq]; cases a; simp
    rw [e, e]; rfl
  case build t ps =>
    have e : execOp (ev ρ) ⟨dst, .build t ps, ty, pos, af, g⟩ = (do pure (.value (← Instr.build t (evps ρ ps.toList).toArray))) := by
      rw [evps_eq, show ∀ f : Nat × Operand → Nat × Value, (ps.toList.map f).toArray = ps.map f from fun f => by cases ps; simp]; rfl
    split at h
    · rename_i z fs hz hu
      split at h
      · rename_i parts hp
        cases hb : infoAll P fs.toList with
        | false => rw [hb] at h; exact h.elim
        | true => rw [hb] at h; exact (pBuildF_run hz hu (infoAll_spec hb) hp h).exec e
      · exact h.elim
    · rename_i z n e' hz hu
      split at h
      · rename_i ti hti; exact (pBuildE_run hz hu hti h).exec e
      · exact h.elim
    · exact h.elim
  case call c =>
    obtain ⟨callee, args, ats⟩ := c
    cases callee <;> first | exact h.elim | skip
    rename_i b
    simp only at h
    have ex : ∀ (l : List Operand) (s : Sem Value), args.toList = l → builtin b ats ty (args.map fun | .const _ => true | _ => false) (l.map (ev ρ)).toArray = (do pure (.value (← s))) →
        execOp (ev ρ) ⟨dst, .call ⟨.builtin b, args, ats⟩, ty, pos, af, g⟩ = (do pure (.value (← s))) := by
      intro l s h1 h2
      rw [← h2]
      subst h1
      simp only [execOp, resolve, List.map_toArray, invoke, pure_bind, Array.toArray_toList]
      simp only [← Array.toList_map, Array.toArray_toList]
      rfl
    have at1 : ∀ l, ats.toList = l → ats = l.toArray := fun l e => by subst e; simp
    unfold builtinV at h
    split at h
    · rename_i t x hb ha
      have ha' := at1 _ hb
      subst ha'
      split at h
      · rename_i hu
        generalize hx : ev ρ x = vx at h
        cases vx <;> simp only [pLenS] at h
        exact VRun.exec (ex _ (Builtin.len_ #[t] ty #[ev ρ x]) ha (by simp [builtin])) ⟨_, fun w => by simp [Builtin.len_, run_und hu, hx, goInt, bys_length], h⟩
      · rename_i e hu
        generalize hx : ev ρ x = vx at h
        cases vx <;> simp only [pLen] at h
        exact VRun.exec (ex _ (Builtin.len_ #[t] ty #[ev ρ x]) ha (by simp [builtin])) ⟨_, fun w => by simp [Builtin.len_, run_und hu, hx, goInt], h⟩
      · exact h.elim
    · rename_i t x hb ha
      have ha' := at1 _ hb
      subst ha'
      split at h
      · rename_i e hu
        generalize hx : ev ρ x = vx at h
        cases vx <;> simp only [pCap] at h
        exact VRun.exec (ex _ (Builtin.cap_ #[t] ty #[ev ρ x]) ha (by simp [builtin])) ⟨_, fun w => by simp [Builtin.cap_, run_und hu, hx, goInt], h⟩
      · exact h.elim
    · rename_i x y ha
      generalize hx : ev ρ x = vx at h
      generalize hy : ev ρ y = vy at h
      cases vx <;> simp only [pMin] at h
      cases vy <;> simp only [pMin] at h
      obtain ⟨rfl, h⟩ := h
      refine VRun.exec (ex _ (Builtin.min_ ats ty #[ev ρ x, ev ρ y]) ha (by simp [builtin])) ⟨_, fun w => ?_, h⟩
      simp [Builtin.min_, Builtin.min2, hx, hy]
      omega
    · rename_i x y ha
      generalize hx : ev ρ x = vx at h
      generalize hy : ev ρ y = vy at h
      cases vx <;> simp only [pMax] at h
      cases vy <;> simp only [pMax] at h
      obtain ⟨rfl, h⟩ := h
      refine VRun.exec (ex _ (Builtin.max_ ats ty #[ev ρ x, ev ρ y]) ha (by simp [builtin])) ⟨_, fun w => ?_, h⟩
      simp [Builtin.max_, Builtin.max2, hx, hy]
      omega
    · rename_i x y z ha
      generalize hx : ev ρ x = vx at h
      generalize hy : ev ρ y = vy at h
      generalize hz : ev ρ z = vz at h
      cases vx <;> simp only [pMin] at h
      cases vy <;> simp only [pMin] at h
      obtain ⟨rfl, h⟩ := h
      cases vz <;> simp only [pMin] at h
      obtain ⟨rfl, h⟩ := h
      refine VRun.exec (ex _ (Builtin.min_ ats ty #[ev ρ x, ev ρ y, ev ρ z]) ha (by simp [builtin])) ⟨_, fun w => ?_, h⟩
      simp [Builtin.min_, Builtin.min2, hx, hy, hz]
      omega
    · exact h.elim
  all_goals exact h.elim
end
end Go.Vc
namespace Go.Vc
open Go
set_option linter.unusedSimpArgs false
set_option linter.unusedVariables false
section
variable {P : Program}
theorem cell_at (w : World) (a : Addr) : w.cell? a = cellAt w.heap a := rfl
theorem frozen_at (w : World) (a : Addr) : w.frozen? a = frozenAt w.heap a := rfl
theorem set_at (w : World) (a : Addr) (v : Value) : (w.setCell a v).heap = setAt w.heap a v := rfl
theorem cellsAt_length {H : Heap} {a : Addr} : ∀ {n : Nat} {l : List Value}, cellsAt H a n = some l → l.length = n
  | 0, l, h => by simp only [cellsAt, Option.some.injEq] at h; subst h; rfl
  | n + 1, l, h => by
    simp only [cellsAt] at h
    split at h
    · rename_i m hm
      split at h
      · simp only [Option.some.injEq] at h; subst h; simp [cellsAt_length hm]
      · simp at h
    · simp at h
theorem cellsAt_get {H : Heap} {a : Addr} : ∀ {n : Nat} {l : List Value}, cellsAt H a n = some l → ∀ j v, l[j]? = some v → cellAt H (a.add j) = some v
  | 0, l, h, j, v, hv => by simp only [cellsAt, Option.some.injEq] at h; subst h; simp at hv
  | n + 1, l, h, j, v, hv => by
    simp only [cellsAt] at h
    split at h
    · rename_i m hm
      split at h
      · rename_i u hu
        simp only [Option.some.injEq] at h; subst h
        have hl := cellsAt_length hm
        by_cases hj : j < n
        · rw [List.getElem?_append_left (by omega)] at hv
          exact cellsAt_get hm j v hv
        · by_cases hj' : j = n
          · subst hj'
            rw [List.getElem?_append_right (by omega), hl] at hv
            simp at hv
            rw [hu, hv]
          · have : (m ++ [u]).length ≤ j := by simp; omega
            rw [List.getElem?_eq_none this] at hv; simp at hv
      · simp at h
    · simp at h
theorem run_loadCells_at {a : Addr} {n : Nat} {l : List Value} {w : World} (h : cellsAt w.heap a n = some l) : (loadCells a n).run P w = .ok l.toArray w := by
  have hl := cellsAt_length h
  subst hl
  exact run_loadCells_list w a l (fun j v hv => cellsAt_get h j v hv)
theorem cells_one {v : Value} (h : oneCell v = true) : v.cells = #[v] := by cases v <;> simp [oneCell] at h <;> rfl
theorem oneCell_oneCell' (v : Value) : oneCell v = v.oneCell' := by cases v <;> rfl
theorem run_storeCells_at {a : Addr} : ∀ {vs : List Value} {i : Nat} {H' : Heap} {w : World}, setsAt w.heap a i vs = some H' →
    ∃ w', (storeCells a vs i).run P w = .ok () w' ∧ Rest w w' ∧ w'.heap = H'
  | [], i, H', w, h => by simp only [setsAt, Option.some.injEq] at h; exact ⟨w, rfl, Rest.refl w, h⟩
  | v :: r, i, H', w, h => by
    simp only [setsAt] at h
    split at h
    · rename_i u hu
      cases hf : frozenAt w.heap (a.add i) with
      | true => rw [hf] at h; simp at h
      | false =>
        rw [hf] at h
        simp only [cond_false] at h
        cases h1 : oneCell v with
        | false => rw [h1] at h; simp at h
        | true =>
          rw [h1] at h
          simp only [cond_true] at h
          obtain ⟨w', hr, hw, hh⟩ := run_storeCells_at (w := w.setCell (a.add i) v) (by rw [set_at]; exact h)
          refine ⟨w', ?_, Rest.trans (show Rest w (w.setCell (a.add i) v) from ⟨rfl, rfl, rfl, by first | exact Nat.le_refl _ | exact Nat.le_succ _⟩) hw, hh⟩
          have hst : (store (a.add i) v).run P w = .ok () (w.setCell (a.add i) v) := by
            rw [run_store P w _ v _ (by rw [← oneCell_oneCell']; exact h1), cell_at, hu, frozen_at, hf]
            simp
          simp only [storeCells, Sem.run_bind, hst, Result.andThen_ok, hr]
    · simp at h
def RRun (P : Program) (s : Sem Value) (H : Heap) (K : Value → Prop) : Prop := ∃ v, (∀ w : World, w.heap = H → s.run P w = .ok v w) ∧ K v
theorem RRun.exec {o : Oper} {ρ : Operand → Value} {s : Sem Value} {H : Heap} {K : Value → Prop} (he : execOp ρ o = (do pure (.value (← s)))) (h : RRun P s H K) :
    ∃ v, (∀ w : World, w.heap = H → (execOp ρ o).run P w = .ok (.value v) w) ∧ K v := by
  obtain ⟨v, hr, hk⟩ := h
  exact ⟨v, fun w hw => by rw [he]; simp [hr w hw], hk⟩
variable {H : Heap} {K : Value → Prop}
theorem pLoad_run {t : TypeId} {d : TypeDesc} {x : Value} (hu : P.underlying t = some d) (ha : isAggT P t = false) (h : pLoad H x K) : RRun P (Instr.loadAt t x) H K := by
  cases x <;> (try simp only [pLoad] at h)
  rename_i a
  cases a <;> (try simp only [pLoad] at h)
  rename_i a
  split at h
  · rename_i v hv
    refine ⟨v, fun w hw => ?_, h⟩
    subst hw
    have : w.cell? a = some v := hv
    simp [Instr.loadAt, Instr.sureAddr, loadVar, run_isAgg hu, ha, this]
  · exact h.elim
theorem pLoadN_run {t : TypeId} {d : TypeDesc} {i : TypeInfo} {x : Value} (hu : P.underlying t = some d) (hi : P.info? t = some i) (ha : isAggT P t = true) (h : pLoadN H i.size x K) : RRun P (Instr.loadAt t x) H K := by
  cases x <;> (try simp only [pLoadN] at h)
  rename_i a
  cases a <;> (try simp only [pLoadN] at h)
  rename_i a
  split at h
  · rename_i l hv
    refine ⟨_, fun w hw => ?_, h⟩
    subst hw
    simp only [Instr.loadAt, Instr.sureAddr, loadVar, Sem.run_bind, Sem.run_pure, Result.andThen_ok, run_isAgg hu, ha, if_true, run_size hi, run_loadCells_at hv]
  · exact h.elim
theorem bytesOf_map : ∀ {l : List Value} {b : List UInt8}, bytesOf l = some b → ∃ ns : List Int, l = ns.map (Value.int .u8) ∧ b = ns.map fun n => UInt8.ofNat n.toNat
  | [], b, h => by simp only [bytesOf, Option.some.injEq] at h; subst h; exact ⟨[], rfl, rfl⟩
  | x :: r, b, h => by
    unfold bytesOf at h
    split at h
    · rename_i heq; simp at heq
    · rename_i n r' heq
      simp only [List.cons.injEq] at heq
      obtain ⟨rfl, rfl⟩ := heq
      split at h
      · rename_i l hl
        simp only [Option.some.injEq] at h
        subst h
        obtain ⟨ns, rfl, rfl⟩ := bytesOf_map hl
        exact ⟨n :: ns, rfl, rfl⟩
      · simp at h
    · simp at h
theorem foldl_push : ∀ (ns : List Int) (s : ByteArray), ns.foldl (fun r n => r.push (UInt8.ofNat n.toNat)) s = ⟨(bys s ++ ns.map fun n => UInt8.ofNat n.toNat).toArray⟩
  | [], s => by cases s; simp [bys]
  | n :: r, s => by
    simp only [List.foldl_cons]
    rw [foldl_push r]
    cases s
    simp [bys, ByteArray.push]
theorem pStrOf_run {s d e : TypeId} {x : Value} (hs : P.underlying s = some (.slice e)) (he : P.underlying e = some (.int .u8)) (hd : P.underlying d = some .string) (h : pStrOf H x K) : RRun P (convert s d x) H K := by
  cases x <;> (try simp only [pStrOf] at h)
  rename_i a n c
  cases a with
  | none =>
    simp only [pStrOf] at h
    refine ⟨_, fun w hw => ?_, h⟩
    rw [run_convert_bytes_string w s d e none n c hs he hd]
    rfl
  | some a =>
    simp only [pStrOf] at h
    split at h
    · rename_i l hl
      split at h
      · rename_i b hb
        obtain ⟨ns, rfl, rfl⟩ := bytesOf_map hb
        refine ⟨_, fun w hw => ?_, h⟩
        subst hw
        rw [run_convert_bytes_string w s d e (some a) n c hs he hd, run_bytesToString w a n c ns (run_loadCells_at hl), foldl_push]
        simp [bys, str]
      · exact h.elim
    · exact h.elim
theorem findNow_of {d : TypeDesc} {kind : Nat} {k : Value} (hd : d = .string ∧ kind = 1 ∨ (∃ j, d = .int j) ∧ kind = 0) : ∀ (es : List MapEntry) (i : Nat) (r : Option (Nat × Value)),
    findE kind k es i = some r → Instr.findNow d k es i = some r := by
  intro es
  induction es with
  | nil => intro i r h; simpa [findE, Instr.findNow] using h
  | cons e es ih =>
    intro i r h
    simp only [findE] at h
    have hs : ∀ c, eqK kind k e.key = some c → Instr.sameNow d k e.key = some c := by
      intro c hc
      rcases hd with ⟨rfl, rfl⟩ | ⟨⟨j, rfl⟩, rfl⟩
      · obtain ⟨s, t, hs, ht, rfl⟩ := eqK1 hc
        rw [hs, ht]; simp [Instr.sameNow, byteArray_beq]
      · obtain ⟨j, m, n, hm, hn, rfl⟩ := eqK0 hc
        rw [hm, hn]; simp [Instr.sameNow]
        rw [Bool.eq_iff_iff]; simp
    simp only [Instr.findNow]
    split at h
    · rename_i hc; rw [hs _ hc]; exact h
    · rename_i hc; rw [hs _ hc]; exact ih _ _ h
    · simp at h
theorem keyKind {t : TypeId} {k : Value} {d : TypeDesc} (hu : P.underlying t = some d) (hd : d = .string ∨ ∃ j, d = .int j) (em : Bool) (n : Nat) (w : World) : (Instr.checkKey em (n + 1) t k).run P w = .ok () w := by
  rcases hd with rfl | ⟨j, rfl⟩ <;> simp [Instr.checkKey, run_und hu]
theorem run_findKey {kt : TypeId} {d : TypeDesc} {kind : Nat} {k : Value} {es : List MapEntry} {r : Option (Nat × Value)} (hu : P.underlying kt = some d) (hd : d = .string ∧ kind = 1 ∨ (∃ j, d = .int j) ∧ kind = 0)
    (h : findE kind k es 0 = some r) (w : World) : (Instr.findKey kt k es).run P w = .ok r w := by
  simp [Instr.findKey, run_und hu, findNow_of hd es 0 r h]
theorem kind_or {d : TypeDesc} {kind : Nat} (hd : d = .string ∧ kind = 1 ∨ (∃ j, d = .int j) ∧ kind = 0) : d = .string ∨ ∃ j, d = .int j := hd.imp (·.1) (·.1)
theorem run_lookup {t kt e : TypeId} {m k : Value} {ok : Bool} {es : List MapEntry} {w : World} {R : Result Value} (ht : P.underlying t = some (.map kt e)) (h : entriesAt w.heap m = some es)
    (hr : (do
      Instr.checkKey es.isEmpty 10000 kt k
      let (v, o) ← match ← Instr.findKey kt k es with
        | some (_, v) => pure (v, true)
        | none => pure (← zeroValue e, false)
      pure (if ok then .tuple #[v, .bool o] else v) : Sem Value).run P w = R) : (Instr.lookup t m k ok).run P w = R := by
  subst hr
  cases m <;> simp only [entriesAt, reduceCtorEq] at h
  rename_i r
  cases r with
  | none => simp only [Option.some.injEq] at h; subst h; simp [Instr.lookup, run_und ht]; rfl
  | some r =>
    simp only at h
    split at h
    · rename_i es' c hr
      simp only [Option.some.injEq] at h
      subst h
      have hg : (getObj r).run P w = .ok (.map es' c) w := by simp [getObj, Sem.run, hr]
      simp only [Instr.lookup, Sem.run_bind, run_und ht, Result.andThen_ok, hg, pure_bind]
      simp [Array.isEmpty_toList]; rfl
    · simp at h
theorem pLookup_run {t kt e : TypeId} {d : TypeDesc} {kind : Nat} {z m k : Value} {ok : Bool} (ht : P.underlying t = some (.map kt e)) (hu : P.underlying kt = some d)
    (hd : d = .string ∧ kind = 1 ∨ (∃ j, d = .int j) ∧ kind = 0) (hz : zeroT P e = some z) (h : pLookup H kind z ok m k K) : RRun P (Instr.lookup t m k ok) H K := by
  unfold pLookup at h
  obtain ⟨i, hi, hz'⟩ := zeroT_some hz
  split at h
  · rename_i es hes
    split at h
    · rename_i j v hf
      refine ⟨_, fun w hw => ?_, h⟩
      subst hw
      refine run_lookup ht hes ?_
      simp only [Sem.run_bind, Result.andThen_ok, keyKind hu (kind_or hd), run_findKey hu hd hf, Sem.run_pure]
      cases ok <;> rfl
    · rename_i hf
      refine ⟨_, fun w hw => ?_, h⟩
      subst hw
      refine run_lookup ht hes ?_
      simp only [Sem.run_bind, Result.andThen_ok, keyKind hu (kind_or hd), run_findKey hu hd hf, Sem.run_pure, run_zero hi hz']
      cases ok <;> rfl
    · exact h.elim
  · exact h.elim
theorem opR_sound {dst : Option Tmp} {op : Op} {ty : TypeId} {pos : String} {af : Array Edge} {g : Option (Nat × Bool)} {ρ : Env} (h : opR P ρ op H K) :
    ∃ v, (∀ w : World, w.heap = H → (execOp (ev ρ) ⟨dst, op, ty, pos, af, g⟩).run P w = .ok (.value v) w) ∧ K v := by
  cases op <;> first | exact (h : False).elim | skip
  case load t x =>
    simp only [opR] at h
    split at h
    · rename_i d i hd hi
      cases ha : isAggT P t with
      | true => rw [ha] at h; exact (pLoadN_run hd hi ha h).exec rfl
      | false => rw [ha] at h; exact (pLoad_run hd ha h).exec rfl
    · exact h.elim
  case convert s d x =>
    simp only [opR] at h
    split at h
    · rename_i e hs hd
      split at h
      · rename_i he; exact (pStrOf_run hs he hd h).exec rfl
      · exact h.elim
    · exact h.elim
  case lookup t m k ok =>
    simp only [opR] at h
    split at h
    · rename_i kt e ht
      split at h
      · rename_i j z hu hz; exact (pLookup_run ht hu (.inr ⟨⟨j, rfl⟩, rfl⟩) hz h).exec rfl
      · rename_i z hu hz; exact (pLookup_run ht hu (.inl ⟨rfl, rfl⟩) hz h).exec rfl
      · exact h.elim
    · exact h.elim
  case call c =>
    obtain ⟨callee, args, ats⟩ := c
    simp only [opR] at h
    split at h
    · rename_i t x hb ha
      split at h
      · rename_i kt e hu
        generalize hx : ev ρ x = vx at h
        have e1 : args = #[x] := by cases args; simp at ha; simp [ha]
        have e2 : ats = #[t] := by cases ats; simp at hb; simp [hb]
        subst e1; subst e2
        refine RRun.exec (s := Builtin.len_ #[t] ty #[ev ρ x]) (by simp [execOp, resolve, invoke, builtin]) ?_
        cases vx <;> simp only [pLenM] at h
        rename_i r
        cases r with
        | none => exact ⟨_, fun w hw => by simp [Builtin.len_, run_und hu, hx, goInt], h⟩
        | some r =>
          simp only at h
          split at h
          · rename_i es c hr
            refine ⟨_, fun w hw => ?_, h⟩
            subst hw
            simp [Builtin.len_, run_und hu, hx, goInt, getObj, Sem.run, hr]
          · exact h.elim
      · exact h.elim
    · exact h.elim
end
end Go.Vc
namespace Go.Vc
open Go
set_option linter.unusedSimpArgs false
set_option linter.unusedVariables false
def after (P : Program) (K : Value → Heap → Prop) (w : World) : Result Next → Prop
  | .ok (.value v) w' => Rest w w' ∧ K v w'.heap
  | .ok .skip w' => Rest w w' ∧ K undef w'.heap
  | .ok (.enter f args) w' => Rest w w' ∧ CallsH P f args w'.heap K
  | _ => False
section
variable {P : Program} {H : Heap} {K : Value → Heap → Prop}
def ERun (P : Program) (s : Sem Value) (H : Heap) (K : Value → Heap → Prop) : Prop := ∀ w : World, w.heap = H → ∃ v w', s.run P w = .ok v w' ∧ Rest w w' ∧ K v w'.heap
def URun (P : Program) (s : Sem Unit) (H : Heap) (K : Value → Heap → Prop) : Prop := ∀ w : World, w.heap = H → ∃ w', s.run P w = .ok () w' ∧ Rest w w' ∧ K undef w'.heap
theorem ERun.exec {o : Oper} {ρ : Operand → Value} {s : Sem Value} (he : execOp ρ o = (do pure (.value (← s)))) (h : ERun P s H K) : ∀ w : World, w.heap = H → after P K w ((execOp ρ o).run P w) := by
  intro w hw
  obtain ⟨v, w', hr, hk⟩ := h w hw
  rw [he]; simpa [hr, after] using hk
theorem URun.exec {o : Oper} {ρ : Operand → Value} {s : Sem Unit} (he : execOp ρ o = (do s; pure .skip)) (h : URun P s H K) : ∀ w : World, w.heap = H → after P K w ((execOp ρ o).run P w) := by
  intro w hw
  obtain ⟨w', hr, hk⟩ := h w hw
  rw [he]; simpa [hr, after] using hk
theorem pStore_run {t : TypeId} {i : TypeInfo} {x v : Value} (hi : P.info? t = some i) (h1 : Nat.beq i.size 1 = true) (h : pStore H x v K) : URun P (Instr.storeAt t x v) H K := by
  cases x <;> (try simp only [pStore] at h)
  rename_i a
  cases a <;> (try simp only [pStore] at h)
  rename_i a
  split at h
  · rename_i H' hs
    intro w hw
    subst hw
    obtain ⟨w', hr, hw', hh⟩ := run_storeCells_at (P := P) hs
    have hv : oneCell v = true := by
      simp only [setsAt] at hs
      split at hs
      · cases hf : frozenAt w.heap (a.add 0) with
        | true => rw [hf] at hs; simp at hs
        | false =>
          rw [hf] at hs
          simp only [cond_false] at hs
          cases h2 : oneCell v with
          | true => rfl
          | false => rw [h2] at hs; simp at hs
      · simp at hs
    refine ⟨w', ?_, hw', by rw [hh]; exact h⟩
    have hs1 : i.size = 1 := Nat.eq_of_beq_eq_true h1
    simp [Instr.storeAt, Instr.sureAddr, storeVar, run_size hi, cells_one hv, hs1, hr]
  · exact h.elim
theorem pStoreN_run {t : TypeId} {i : TypeInfo} {x v : Value} (hi : P.info? t = some i) (h : pStoreN H i.size x v K) : URun P (Instr.storeAt t x v) H K := by
  cases x <;> (try simp only [pStoreN] at h)
  rename_i a
  cases a <;> (try simp only [pStoreN] at h)
  rename_i a
  obtain ⟨hc, h⟩ := h
  split at h
  · rename_i H' hs
    intro w hw
    subst hw
    obtain ⟨w', hr, hw', hh⟩ := run_storeCells_at (P := P) hs
    refine ⟨w', ?_, hw', by rw [hh]; exact h⟩
    simp [Instr.storeAt, Instr.sureAddr, storeVar, run_size hi, hc, hr]
  · exact h.elim
theorem pBox_run {e : TypeId} {v : Value} (h : pBox H e v K) : ERun P (Instr.box e v) H K := by
  intro w hw
  subst hw
  exact ⟨_, _, rfl, ⟨rfl, rfl, rfl, by first | exact Nat.le_refl _ | exact Nat.le_succ _⟩, h⟩
theorem pAlloc_run {e : TypeId} {z : Value} (hz : zeroT P e = some z) (h : pBox H e z K) : ERun P (Instr.alloc e true (.tuple #[])) H K := by
  intro w hw
  subst hw
  obtain ⟨i, hi, hz'⟩ := zeroT_some hz
  refine ⟨.pointer (some ⟨w.heap.size, 0, none⟩), { w with heap := w.heap.push (.cells z.cells e) }, ?_, ⟨rfl, rfl, rfl, by first | exact Nat.le_refl _ | exact Nat.le_succ _⟩, h⟩
  simp [Instr.alloc, run_zero hi hz', newVar, newRow]
theorem repL_range (z : List Value) (hz : 0 < z.length) : ∀ n : Nat, ((List.range (n * z.length)).map fun i => z.getD (i % z.length) undef) = repL z n
  | 0 => by simp [repL]
  | n + 1 => by
    have h1 : (n + 1) * z.length = z.length + n * z.length := by rw [Nat.succ_mul, Nat.add_comm]
    rw [h1, List.range_add, List.map_append, repL, ← repL_range z hz n]
    congr 1
    · apply List.ext_getElem (by simp)
      intro i h1 h2
      simp at h1
      simp [Nat.mod_eq_of_lt h1, List.getD_eq_getElem?_getD, h1]
    · simp [List.map_map, Function.comp_def, Nat.add_mod_left]
theorem rows_repL {z : Value} (hz : 1 ≤ (cellsL z).length) (n : Nat) : (Array.range (n * (cellsL z).length)).map (fun i => z.cells[i % z.cells.size]!) = (repL (cellsL z) n).toArray := by
  rw [← repL_range _ hz n]
  apply Array.ext'
  have hs : z.cells.size = (cellsL z).length := by rw [← cellsL_cells]; simp
  simp only [Array.toList_map, Array.toList_range]
  apply List.map_congr_left
  intro i _
  rw [hs, ← cellsL_cells]
  have hlt : i % (cellsL z).length < (cellsL z).length := Nat.mod_lt _ (by omega)
  simp [getElem!_def, List.getD_eq_getElem?_getD, hlt]
theorem wrap64_id {n : Int} (h0 : 0 ≤ n) (h1 : n ≤ 9223372036854775807) : IntKind.i64.wrap n = n := by
  simp [IntKind.wrap, IntKind.bits, IntKind.signed]
  omega
theorem pMakeSl_run {t e : TypeId} {i : TypeInfo} {z l c : Value} (ht : P.underlying t = some (.slice e)) (hi : P.info? e = some i) (hz : zeroT P e = some z)
    (hs : (cellsL z).length = i.size) (h1 : 1 ≤ i.size) (h : pMakeSl H e i.bytes (cellsL z) l c K) : ERun P (Instr.makeSlice t l c) H K := by
  unfold pMakeSl at h
  split at h
  · rename_i n m
    obtain ⟨h0, hnm, hb, hm, hk⟩ := h
    intro w hw
    subst hw
    obtain ⟨i', hi', hz'⟩ := zeroT_some hz
    obtain rfl : i' = i := by rw [hi] at hi'; exact (Option.some.inj hi').symm
    have wn := wrap64_id h0 (by omega)
    have wm := wrap64_id (n := m) (by omega) hm
    have hb' : ¬ ((i'.bytes : Int) * m > 2 ^ 48) := by omega
    have hno : (decide (m < 0) || decide ((i'.bytes : Int) * m > 2 ^ 48) || decide (n < 0) || decide (n > m)) = false := by
      simp only [Bool.or_eq_false_iff, decide_eq_false_iff_not]
      omega
    refine ⟨_, { w with heap := w.heap.push (.cells (repL (cellsL z) m.toNat).toArray e) }, ?_, ⟨rfl, rfl, rfl, by first | exact Nat.le_refl _ | exact Nat.le_succ _⟩, hk⟩
    simp only [Instr.makeSlice, Sem.run_bind, run_und ht, Result.andThen_ok, asInt, asIntOf, Sem.run_pure, run_info hi, wn, wm, Sem.run_ite, run_askRoom, run_size hi, run_zero hi hz']
    rw [if_neg (by simp only [Bool.or_eq_true, decide_eq_true_eq]; omega)]
    by_cases h0m : m.toNat * i'.size = 0
    · have : m.toNat = 0 := by rcases Nat.mul_eq_zero.1 h0m with h | h; exact h; omega
      rw [if_pos h0m]
      simp [this, newRow, repL, Array.range_zero']
    · rw [if_neg h0m]
      rw [← hs] at *
      have := rows_repL (z := z) (by omega) m.toNat
      simp [newRow, this]
  · exact h.elim
theorem pBuildSl_run {t e : TypeId} {i : TypeInfo} {z : Value} {len : Nat} {vs : List (Nat × Value)} (ht : P.underlying t = some (.slice e)) (hi : P.info? e = some i) (hz : zeroT P e = some z)
    (hl : len * i.size ≤ 16777216) (hs : (cellsL z).length = i.size) (h1 : 1 ≤ i.size) (h : pBuildSl H e len (repL (cellsL z) len) (partsE i.size vs) K) : ERun P (Instr.buildSlice t len vs.toArray) H K := by
  intro w hw
  subst hw
  obtain ⟨i', hi', hz'⟩ := zeroT_some hz
  obtain rfl : i' = i := by rw [hi] at hi'; exact (Option.some.inj hi').symm
  obtain ⟨cs, hc, hk⟩ := pBuild_fill (places := fun j => some (j * i'.size, i'.size)) _ vs (repL (cellsL z) len) (partsE_get vs) h
  refine ⟨_, { w with heap := w.heap.push (.cells cs e) }, ?_, ⟨rfl, rfl, rfl, by first | exact Nat.le_refl _ | exact Nat.le_succ _⟩, hk⟩
  simp only [Instr.buildSlice, Sem.run_bind, run_und ht, Result.andThen_ok, run_size hi, Sem.run_ite]
  rw [if_neg (by omega)]
  by_cases h0 : len * i'.size = 0
  · have : len = 0 := by rcases Nat.mul_eq_zero.1 h0 with h | h; exact h; omega
    subst this
    simp only [repL] at hc
    simp [newRow, Array.range_zero', hc]
  · rw [if_neg h0]
    have hr := rows_repL (z := z) (by omega) len
    rw [hs] at hr
    simp only [Sem.run_bind, run_zero hi hz', Result.andThen_ok, Sem.run_pure, hr, hc]
    simp [newRow]
theorem pMark_run {s e : TypeId} {x : Value} (hs : P.underlying s = some (.slice e)) (he : P.underlying e = some (.int .u8)) (h : pMark H x K) : ERun P (convert s s x) H K := by
  cases x <;> simp only [pMark] at h
  rename_i a n c
  cases a with
  | none => exact h.elim
  | some a =>
    simp only at h
    intro w hw
    subst hw
    cases hb : w.heap[a.block]? with
    | none => rw [hb] at h; exact h.elim
    | some ob =>
      rw [hb] at h
      cases ob with
      | cells cs t fr =>
        refine ⟨.slice (some a) n c, { w with heap := w.heap.setIfInBounds a.block (.cells cs t (markFr fr cs.size)) }, ?_, ⟨rfl, rfl, rfl, by first | exact Nat.le_refl _ | exact Nat.le_succ _⟩, h⟩
        simp only [convert, Sem.run_bind, run_und hs, run_und he, Result.andThen_ok, BEq.rfl, markStringish, run_shape, World.shape?, hb, run_freeze, Sem.run_pure]
        congr 1
        simp only [World.freeze]
        rw [if_neg (by omega)]
        congr 1
        apply Array.ext_getElem?
        intro j
        rw [Array.getElem?_modify, Array.getElem?_setIfInBounds]
        by_cases hj : a.block = j
        · subst hj
          have hlt : a.block < w.heap.size := by
            rw [Array.getElem?_eq_some_iff] at hb; exact hb.1
          rw [if_pos rfl, if_pos rfl, if_pos hlt, hb]
          rfl
        · rw [if_neg hj, if_neg hj]
      | _ => exact h.elim
theorem pBytes_run {s t e : TypeId} {x : Value} (hs : P.underlying s = some .string) (ht : P.underlying t = some (.slice e)) (he : P.underlying e = some (.int .u8)) (h : pBytes H e x K) : ERun P (convert s t x) H K := by
  cases x <;> simp only [pBytes] at h
  rename_i b
  intro w hw
  subst hw
  let c := (Question.appendCap b.size 0 e).cut (w.tape w.drawn (Question.appendCap b.size 0 e))
  have hc : b.size ≤ c := Nat.le_add_right _ _
  have hk := h c (by rw [bys_length]; exact hc)
  rw [bys_length] at hk
  have hcell : ((bys b).map byteV ++ List.replicate (c - b.size) (Value.int .u8 0)).toArray = (b.data.map fun b => Value.int .u8 b.toNat) ++ Array.replicate (c - b.size) (.int .u8 0) := by
    cases b
    apply Array.ext'
    simp [bys]
  have hsz : ((bys b).map byteV ++ List.replicate (c - b.size) (Value.int .u8 0)).length = c := by
    simp [bys_length]; omega
  refine ⟨.slice (some ⟨w.heap.size, 0, none⟩) b.size c, { w with drawn := w.drawn + 1, heap := w.heap.push (.cells ((bys b).map byteV ++ List.replicate (c - b.size) (Value.int .u8 0)).toArray e (c, c + 1)) }, ?_, ⟨rfl, rfl, rfl, by first | exact Nat.le_refl _ | exact Nat.le_succ _⟩, hk⟩
  have hf : ∀ q : Question, q = .appendCap b.size 0 e → q.forced = false := fun q hq => by subst hq; rfl
  simp only [convert, Sem.run_bind, run_und hs, run_und ht, run_und he, Result.andThen_ok, Conv.stringToBytes, run_choose, hf _ rfl, Bool.false_eq_true, if_false, newRow, run_newObj, Sem.run_pure, markStringish, run_shape]
  rw [← hcell]
  simp only [World.shape?, Array.getElem?_push_size, List.size_toArray, hsz, Sem.run_bind, run_freeze, Result.andThen_ok, Sem.run_pure]
  simp only [World.freeze]
  rw [if_neg (by omega)]
  congr 2
  apply Array.ext_getElem?
  intro j
  rw [Array.getElem?_modify]
  by_cases hj : w.heap.size = j
  · subst hj; simp
  · rw [if_neg hj, Array.getElem?_push, Array.getElem?_push, if_neg (Ne.symm hj), if_neg (Ne.symm hj)]
theorem run_lenOf {x : Value} {m : Nat} (h : lenV x = some m) (w : World) : (Builtin.lenOf x).run P w = .ok m w := by
  cases x <;> simp only [lenV, reduceCtorEq, Option.some.injEq] at h
  · subst h; simp [Builtin.lenOf, bys_length]
  · subst h; simp [Builtin.lenOf]
theorem run_firstCells {x : Value} {m size : Nat} {new : List Value} {w : World} (hm : lenV x = some m) (h : cellsOf w.heap size x = some new) (hs : (∃ s, x = .string s) → size = 1 ∨ True) :
    (Builtin.firstCells size m x).run P w = .ok new.toArray w := by
  cases x <;> simp only [lenV, reduceCtorEq, Option.some.injEq] at hm
  · rename_i s
    subst hm
    simp only [cellsOf, Option.some.injEq] at h
    subst h
    simp only [Builtin.firstCells, Sem.run_pure]
    congr 1
    rw [bys_length]
    have : s.extract 0 s.size = s := by
      cases s with | mk d => simp [ByteArray.ext_iff, ByteArray.data_extract, ByteArray.size]
    rw [this]
    cases s; simp only [bys]; apply Array.ext'; simp
  · rename_i a n c
    subst hm
    cases a with
    | none => simp only [cellsOf, Option.some.injEq] at h; subst h; simp [Builtin.firstCells]
    | some a => simp only [cellsOf] at h; exact run_loadCells_at h
theorem growBy_le (newLen : Nat) : ∀ (k c : Nat), 256 ≤ c → c ≤ 2 * newLen → Builtin.growBy newLen k c ≤ 2 * newLen
  | 0, c, _, h => h
  | k + 1, c, h0, h => by
    simp only [Builtin.growBy]
    split
    · exact h
    · exact growBy_le newLen k _ (by omega) (by omega)
theorem nextslicecap_le {newLen oldCap : Nat} (h : oldCap < newLen) : Builtin.nextslicecap newLen oldCap ≤ 2 * newLen := by
  unfold Builtin.nextslicecap
  split
  · omega
  · split
    · omega
    · exact growBy_le _ _ _ (by omega) (by omega)
theorem zeroCells_repL {z : Value} (hz : 1 ≤ (cellsL z).length) (n : Nat) : Builtin.zeroCells z.cells n = (repL (cellsL z) n).toArray := by
  have hs : z.cells.size = (cellsL z).length := by rw [← cellsL_cells]; simp
  rw [← rows_repL hz n]
  simp only [Builtin.zeroCells, hs]
theorem pAppend_run {t u e : TypeId} {du : TypeDesc} {ty : TypeId} {i : TypeInfo} {z s x : Value} (ht : P.underlying t = some (.slice e)) (hu : P.underlying u = some du) (hdu : ∀ k, du ≠ .int k) (hi : P.info? e = some i) (hz : zeroT P e = some z)
    (hb : 1 ≤ i.bytes) (h1 : 1 ≤ (cellsL z).length) (h : pAppend H e i.size i.bytes (cellsL z) s x K) : ERun P (Builtin.append_ #[t, u] ty #[s, x]) H K := by
  intro w hw
  subst hw
  obtain ⟨i', hi', hz'⟩ := zeroT_some hz
  obtain rfl : i' = i := by rw [hi] at hi'; exact (Option.some.inj hi').symm
  unfold pAppend at h
  split at h
  · rename_i base n cap m new hm hnew
    obtain ⟨ha, hg⟩ := h
    have hz0 : ((du matches .int _) : Bool) = false := by cases du <;> first | rfl | exact absurd rfl (hdu _)
    by_cases hc : n + m ≤ cap
    · have ha := ha hc
      cases base with
      | none =>
        refine ⟨_, w, ?_, Rest.refl w, ha⟩
        simp only [Builtin.append_, List.getElem?_toArray, List.getElem?_cons_zero, List.getElem?_cons_succ, Sem.run_bind, run_und ht, run_und hu, Result.andThen_ok, run_size hi, Sem.run_pure, hz0, Bool.false_eq_true, if_false, run_lenOf hm, if_pos hc,
          Bool.not_false, if_true, run_firstCells hm hnew (fun _ => .inr trivial)]
      | some a =>
        simp only at ha
        split at ha
        · rename_i H' hs
          obtain ⟨w', hr, hw', hh⟩ := run_storeCells_at (P := P) hs
          refine ⟨_, w', ?_, hw', by rw [hh]; exact ha⟩
          simp only [Builtin.append_, List.getElem?_toArray, List.getElem?_cons_zero, List.getElem?_cons_succ, Sem.run_bind, run_und ht, run_und hu, Result.andThen_ok, run_size hi, Sem.run_pure, hz0, Bool.false_eq_true, if_false, run_lenOf hm, if_pos hc,
            Bool.not_false, if_true, run_firstCells hm hnew (fun _ => .inr trivial), hr]
        · exact ha.elim
    · obtain ⟨hb2, hg⟩ := hg (by omega)
      split at hg
      · rename_i old hold
        let c := (Question.appendCap (n + m) cap e).cut (w.tape w.drawn (Question.appendCap (n + m) cap e))
        have hcm : n + m ≤ c := Nat.le_add_right _ _
        have hk := hg c hcm
        have hcells : (old ++ new ++ repL (cellsL z) (c - (n + m))).toArray = old.toArray ++ new.toArray ++ Builtin.zeroCells z.cells (c - (n + m)) := by
          rw [zeroCells_repL h1]; simp
        refine ⟨_, { w with drawn := w.drawn + 1, heap := w.heap.push (.cells (old ++ new ++ repL (cellsL z) (c - (n + m))).toArray e) }, ?_, ⟨rfl, rfl, rfl, by first | exact Nat.le_refl _ | exact Nat.le_succ _⟩, hk⟩
        have hbig : ¬ (Builtin.nextslicecap (n + m) cap * i'.bytes > 2 ^ 48) := by
          have := nextslicecap_le (newLen := n + m) (oldCap := cap) (by omega)
          have := Nat.mul_le_mul_right i'.bytes this
          omega
        have hq : (Question.appendCap (n + m) cap e).forced = false := rfl
        have hnb : ¬ (((n + m : Nat) : Int) > IntKind.i64.max ∧ ((false : Bool) = true ∨ i'.bytes = 0)) := by rintro ⟨_, h | h⟩; cases h; omega
        have hold' : (Builtin.firstCells i'.size n (.slice base n cap)).run P { w with drawn := w.drawn + 1 } = .ok old.toArray { w with drawn := w.drawn + 1 } := run_firstCells (w := { w with drawn := w.drawn + 1 }) rfl hold (fun _ => .inr trivial)
        have hnew' : (Builtin.firstCells i'.size m x).run P { w with drawn := w.drawn + 1 } = .ok new.toArray { w with drawn := w.drawn + 1 } := run_firstCells (w := { w with drawn := w.drawn + 1 }) hm hnew (fun _ => .inr trivial)
        simp only [Builtin.append_, List.getElem?_toArray, List.getElem?_cons_zero, List.getElem?_cons_succ, Sem.run_bind, run_und ht, run_und hu, Result.andThen_ok, run_size hi, Sem.run_pure, hz0, Bool.false_eq_true, if_false, run_lenOf hm, if_neg hc,
          Bool.not_false, if_true, run_info hi, Sem.run_ite]
        rw [if_neg (by simpa using hnb), if_neg hbig]
        simp only [Sem.run_bind, run_choose, hq, Bool.false_eq_true, if_false, Result.andThen_ok, run_info hi, run_askRoom, hold', hnew', run_zero hi hz', newRow, run_newObj, Sem.run_pure]
        rw [hcells]
      · exact hg.elim
  · exact h.elim
theorem pAppendZ_run {t u e : TypeId} {kd : IntKind} {ty : TypeId} {i : TypeInfo} {z s x : Value} (ht : P.underlying t = some (.slice e)) (hu : P.underlying u = some (.int kd)) (hi : P.info? e = some i) (hz : zeroT P e = some z)
    (hb : 1 ≤ i.bytes) (h1 : 1 ≤ (cellsL z).length) (h2 : 1 ≤ i.size) (h : pAppendZ H e i.bytes (cellsL z) s x K) : ERun P (Builtin.append_ #[t, u] ty #[s, x]) H K := by
  intro w hw
  subst hw
  obtain ⟨i', hi', hz'⟩ := zeroT_some hz
  obtain rfl : i' = i := by rw [hi] at hi'; exact (Option.some.inj hi').symm
  unfold pAppendZ at h
  split at h
  · rename_i n
    obtain ⟨⟨h0, hB⟩, hg⟩ := h
    obtain ⟨m, rfl⟩ : ∃ m : Nat, n = m := ⟨n.toNat, by omega⟩
    rw [Int.toNat_natCast] at hB hg
    have hm0 : 0 < m := by omega
    have hmb : 2 * m ≤ 281474976710656 := Nat.le_trans (Nat.le_mul_of_pos_right _ hb) hB
    have hwr : IntKind.i64.wrap (m : Int) = m := by simp [IntKind.wrap, IntKind.bits, IntKind.signed]; omega
    let c := (Question.appendCap m 0 e).cut (w.tape w.drawn (Question.appendCap m 0 e))
    have hcm : m ≤ c := Nat.le_add_right _ _
    have hk := hg c hcm
    have hcells : (repL (cellsL z) m ++ repL (cellsL z) (c - m)).toArray = #[] ++ Builtin.zeroCells z.cells m ++ Builtin.zeroCells z.cells (c - (0 + m)) := by
      rw [zeroCells_repL h1, zeroCells_repL h1]; simp
    refine ⟨_, { w with drawn := w.drawn + 1, heap := w.heap.push (.cells (repL (cellsL z) m ++ repL (cellsL z) (c - m)).toArray e) }, ?_, ⟨rfl, rfl, rfl, by first | exact Nat.le_refl _ | exact Nat.le_succ _⟩, hk⟩
    have hbig : ¬ (Builtin.nextslicecap (0 + m) 0 * i'.bytes > 2 ^ 48) := by
      have := nextslicecap_le (newLen := 0 + m) (oldCap := 0) (by omega)
      have := Nat.mul_le_mul_right i'.bytes this
      rw [Nat.zero_add] at this ⊢
      omega
    have hq : (Question.appendCap (0 + m) 0 e).forced = false := rfl
    have hneg : ¬ ((m : Int) < 0) := by omega
    have hbig2 : ¬ ((m : Int) * (i'.bytes : Int) > 2 ^ 48) := by
      have e1 : (m : Int) * (i'.bytes : Int) = ((m * i'.bytes : Nat) : Int) := by simp
      have e2 : 2 * m * i'.bytes = 2 * (m * i'.bytes) := Nat.mul_assoc _ _ _
      rw [e1]; omega
    have hnb : ¬ (((0 + m : Nat) : Int) > IntKind.i64.max ∧ ((true : Bool) = true ∨ i'.bytes = 0)) := by rintro ⟨h, _⟩; simp [IntKind.max, IntKind.bits, IntKind.signed] at h; omega
    have hc0 : ¬ (0 + m ≤ 0) := by omega
    have hms : ¬ (m * i'.size = 0) := by have := Nat.mul_pos hm0 h2; omega
    have hasI : (asInt (.int .i64 (m : Int))).run P w = .ok (m : Int) w := rfl
    have hold' : (Builtin.firstCells i'.size 0 (.slice none 0 0)).run P { w with drawn := w.drawn + 1 } = .ok #[] { w with drawn := w.drawn + 1 } := by simp [Builtin.firstCells]
    have hz0 : ((TypeDesc.int kd matches .int _) : Bool) = true := rfl
    simp only [Builtin.append_, List.getElem?_toArray, List.getElem?_cons_zero, List.getElem?_cons_succ, Sem.run_bind, run_und ht, run_und hu, Result.andThen_ok, run_size hi, Sem.run_pure, hz0, hasI, hwr, if_neg hneg, if_true, run_info hi, if_neg hbig2, Int.toNat_natCast, if_neg hc0, Sem.run_ite]
    rw [if_neg (by simpa using hnb), if_neg hbig]
    simp only [Sem.run_bind, run_choose, hq, Bool.not_true, Bool.false_eq_true, if_false, Result.andThen_ok, run_info hi, run_askRoom, hold', if_neg hms, run_zero hi hz', newRow, run_newObj, Sem.run_pure]
    rw [hcells, Nat.zero_add]
  · exact h.elim
theorem run_getMap {r : Nat} {es : Array MapEntry} {c : Nat} {w : World} (h : w.heap[r]? = some (.map es c)) : (getObj r).run P w = .ok (.map es c) w := by simp [getObj, Sem.run, h]
theorem run_setMap {r : Nat} {es : Array MapEntry} {c : Nat} {o : Obj} {w : World} (h : w.heap[r]? = some (.map es c)) : (setObj r o).run P w = .ok () { w with heap := w.heap.setIfInBounds r o } := by simp [setObj, Sem.run, h]
theorem findE_spec {kind : Nat} {k : Value} : ∀ {es : List MapEntry} {i j : Nat} {v : Value}, findE kind k es i = some (some (j, v)) → ∃ e, es[j - i]? = some e ∧ i ≤ j ∧ eqK kind k e.key = some true ∧ e.val = v
  | [], i, j, v, h => by simp [findE] at h
  | e :: es, i, j, v, h => by
    simp only [findE] at h
    split at h
    · rename_i hc
      simp only [Option.some.injEq, Prod.mk.injEq] at h
      obtain ⟨rfl, rfl⟩ := h
      exact ⟨e, by simp, Nat.le_refl _, hc, rfl⟩
    · obtain ⟨e', he, hl, hk, hv⟩ := findE_spec h
      refine ⟨e', ?_, by omega, hk, hv⟩
      rw [show j - i = (j - (i + 1)) + 1 by omega]
      simpa using he
    · simp at h
theorem keyStays {kind : Nat} {k k' : Value} (hd : kind = 0 ∨ kind = 1) (h : eqK kind k k' = some true) (w : World) : (Instr.keyThatStays k' k).run P w = .ok k w := by
  rcases hd with rfl | rfl
  · obtain ⟨j, m, n, rfl, rfl, hc⟩ := eqK0 h
    have : m = n := by simpa using hc.symm
    subst this
    simp [Instr.keyThatStays, Instr.sameBits]
  · obtain ⟨s, t, rfl, rfl, hc⟩ := eqK1 h
    have : bys s = bys t := by simpa using hc.symm
    rw [bys_inj] at this
    subst this
    have : (s == s) = true := by rw [byteArray_beq]; simp
    simp [Instr.keyThatStays, Instr.sameBits, this]
theorem kind_01 {d : TypeDesc} {kind : Nat} (hd : d = .string ∧ kind = 1 ∨ (∃ j, d = .int j) ∧ kind = 0) : kind = 0 ∨ kind = 1 := by rcases hd with ⟨_, h⟩ | ⟨_, h⟩ <;> simp [h]
theorem pMapSet_run {t kt e : TypeId} {d : TypeDesc} {kind : Nat} {m k v : Value} (ht : P.underlying t = some (.map kt e)) (hu : P.underlying kt = some d)
    (hd : d = .string ∧ kind = 1 ∨ (∃ j, d = .int j) ∧ kind = 0) (h : pMapSet H kind m k v K) : URun P (Instr.mapUpdate t m k v) H K := by
  intro w hw
  subst hw
  cases m <;> (try simp only [pMapSet] at h)
  rename_i r
  cases r <;> (try simp only [pMapSet] at h)
  rename_i r
  split at h
  · rename_i es clock hr
    split at h
    · rename_i j u hf
      obtain ⟨en, he, _, hk, _⟩ := findE_spec hf
      refine ⟨{ w with heap := w.heap.setIfInBounds r _ }, ?_, ⟨rfl, rfl, rfl, by first | exact Nat.le_refl _ | exact Nat.le_succ _⟩, h⟩
      have hk2 : ((es[j]?).map (·.key)).getD k = en.key := by simp at he; simp [he]
      simp only [Instr.mapUpdate, Sem.run_bind, run_und ht, Result.andThen_ok, run_getMap hr, keyKind hu (kind_or hd), run_findKey hu hd hf, hk2, keyStays (kind_01 hd) hk, run_setMap hr]
    · rename_i hf
      refine ⟨{ w with heap := w.heap.setIfInBounds r _ }, ?_, ⟨rfl, rfl, rfl, by first | exact Nat.le_refl _ | exact Nat.le_succ _⟩, h⟩
      simp only [Instr.mapUpdate, Sem.run_bind, run_und ht, Result.andThen_ok, run_getMap hr, keyKind hu (kind_or hd), run_findKey hu hd hf, run_setMap hr]
    · exact h.elim
  · exact h.elim
theorem pDelete_run {t u kt e ty : TypeId} {d : TypeDesc} {kind : Nat} {m k : Value} (ht : P.underlying t = some (.map kt e)) (hu : P.underlying kt = some d)
    (hd : d = .string ∧ kind = 1 ∨ (∃ j, d = .int j) ∧ kind = 0) (h : pDelete H kind m k K) : ERun P (Builtin.delete_ #[t, u] ty #[m, k]) H K := by
  intro w hw
  subst hw
  cases m <;> (try simp only [pDelete] at h)
  rename_i r
  cases r <;> (try simp only [pDelete] at h)
  rename_i r
  split at h
  · rename_i es clock hr
    split at h
    · rename_i j u hf
      refine ⟨_, { w with heap := w.heap.setIfInBounds r _ }, ?_, ⟨rfl, rfl, rfl, by first | exact Nat.le_refl _ | exact Nat.le_succ _⟩, h⟩
      simp [Builtin.delete_, run_und ht, run_getMap hr, keyKind hu (kind_or hd), run_findKey hu hd hf, run_setMap hr]
    · rename_i hf
      refine ⟨_, w, ?_, Rest.refl w, h⟩
      have : w.heap.setIfInBounds r (.map es clock) = w.heap := by
        apply Array.ext_getElem?
        intro j
        rw [Array.getElem?_setIfInBounds]
        by_cases hj : r = j
        · subst hj
          have hl : r < w.heap.size := by
            rcases Nat.lt_or_ge r w.heap.size with h | h
            · exact h
            · simp [Array.getElem?_eq_none h] at hr
          simp [hl] at hr ⊢
          exact hr.symm
        · simp [hj]
      simp [Builtin.delete_, run_und ht, run_getMap hr, keyKind hu (kind_or hd), run_findKey hu hd hf, run_setMap hr, this]
    · exact h.elim
  · exact h.elim
theorem pClearM_run {t kt e ty : TypeId} {m : Value} (ht : P.underlying t = some (.map kt e)) (h : pClearM H m K) : ERun P (Builtin.clear_ #[t] ty #[m]) H K := by
  intro w hw
  subst hw
  cases m <;> (try simp only [pClearM] at h)
  rename_i r
  cases r <;> (try simp only [pClearM] at h)
  · exact ⟨_, w, by simp [Builtin.clear_, run_und ht], Rest.refl w, h⟩
  · rename_i r
    split at h
    · rename_i es clock hr
      refine ⟨_, { w with heap := w.heap.setIfInBounds r _ }, ?_, ⟨rfl, rfl, rfl, by first | exact Nat.le_refl _ | exact Nat.le_succ _⟩, h⟩
      simp [Builtin.clear_, run_und ht, run_getMap hr, run_setMap hr]
    · exact h.elim
theorem pLenC_run {t e ty : TypeId} {d : ChanDir} {x : Value} (ht : P.underlying t = some (.chan d e)) (h : pLenC H x K) : ERun P (Builtin.len_ #[t] ty #[x]) H K := by
  intro w hw
  subst hw
  cases x <;> simp only [pLenC] at h
  rename_i r
  cases r with
  | none => exact ⟨_, w, by simp [Builtin.len_, run_und ht, goInt], ⟨rfl, rfl, rfl, by first | exact Nat.le_refl _ | exact Nat.le_succ _⟩, h⟩
  | some r =>
    simp only at h
    split at h
    · rename_i cap buf cl s r2 tm hr
      exact ⟨_, w, by simp [Builtin.len_, run_und ht, goInt, getObj, Sem.run, hr], ⟨rfl, rfl, rfl, by first | exact Nat.le_refl _ | exact Nat.le_succ _⟩, h⟩
    · exact h.elim
theorem pSem_run {s : Sem Value} (h : pSem H P s K) : ERun P s H K := by
  intro w hw
  have := h w hw
  split at this
  · rename_i v w' hr; exact ⟨v, w', hr, this⟩
  · exact this.elim
theorem copy_new {s : Value} {m n : Nat} {new : List Value} {size : Nat} {w : World} (hm : lenV s = some m)
    (h : cellsOf w.heap size (takeV (min m n) s) = some new) :
    (Builtin.firstCells size (Nat.min m n) s).run P w = .ok new.toArray w := by
  have e : Nat.min m n = min m n := rfl
  rw [e]
  cases s <;> simp only [lenV, reduceCtorEq, Option.some.injEq] at hm
  · rename_i b
    simp only [takeV, cellsOf, Option.some.injEq, bys_mk] at h
    subst h
    simp only [Builtin.firstCells, Sem.run_pure]
    congr 1
    apply Array.ext'
    simp [bys, ByteArray.data_extract, List.map_take]
  · rename_i a l c
    cases a with
    | none => simp only [takeV, cellsOf, Option.some.injEq] at h; subst h; simp [Builtin.firstCells]
    | some a => simp only [takeV, cellsOf] at h; exact run_loadCells_at h
theorem pCopy_run {t u e ty : TypeId} {i : TypeInfo} {d s : Value} (ht : P.underlying t = some (.slice e)) (hi : P.info? e = some i) (h : pCopy H i.size d s K) : ERun P (Builtin.copy_ #[t, u] ty #[d, s]) H K := by
  intro w hw
  subst hw
  unfold pCopy at h
  split at h
  · rename_i base n c m hm
    split at h
    · rename_i new hnew
      have hl := copy_new (P := P) hm hnew
      cases base with
      | none =>
        refine ⟨_, w, ?_, Rest.refl w, h⟩
        simp only [Builtin.copy_, List.getElem?_toArray, List.getElem?_cons_zero, List.getElem?_cons_succ, Sem.run_bind, run_und ht, Result.andThen_ok, run_lenOf hm, run_size hi, hl, Sem.run_pure, goInt]
      | some a =>
        simp only at h
        split at h
        · rename_i H' hs
          obtain ⟨w', hr, hw', hh⟩ := run_storeCells_at (P := P) hs
          refine ⟨_, w', ?_, hw', by rw [hh]; exact h⟩
          simp only [Builtin.copy_, List.getElem?_toArray, List.getElem?_cons_zero, List.getElem?_cons_succ, Sem.run_bind, run_und ht, Result.andThen_ok, run_lenOf hm, run_size hi, hl, Sem.run_pure, goInt, hr]
        · exact h.elim
    · exact h.elim
  · exact h.elim
theorem pClearS_run {t e ty : TypeId} {z x : Value} (ht : P.underlying t = some (.slice e)) (hz : zeroT P e = some z) (h1 : 1 ≤ (cellsL z).length) (h : pClearS H (cellsL z) x K) : ERun P (Builtin.clear_ #[t] ty #[x]) H K := by
  intro w hw
  subst hw
  obtain ⟨i', hi', hz'⟩ := zeroT_some hz
  unfold pClearS at h
  split at h
  · exact ⟨_, w, by simp [Builtin.clear_, run_und ht], Rest.refl w, h⟩
  · rename_i a n c
    split at h
    · rename_i H' hs
      obtain ⟨w', hr, hw', hh⟩ := run_storeCells_at (P := P) hs
      by_cases h0 : n = 0
      · subst h0
        simp only [repL, setsAt, Option.some.injEq] at hs
        subst hs
        exact ⟨_, w, by simp [Builtin.clear_, run_und ht], Rest.refl w, h⟩
      · refine ⟨_, w', ?_, hw', by rw [hh]; exact h⟩
        obtain ⟨m, rfl⟩ : ∃ m, n = m + 1 := ⟨n - 1, by omega⟩
        simp [Builtin.clear_, run_und ht, run_zero hi' hz', zeroCells_repL h1, hr]
    · exact h.elim
  · exact h.elim
theorem list1 {α : Type} {a : Array α} {x : α} (h : a.toList = [x]) : a = #[x] := by cases a; simp at h; simp [h]
theorem list2 {α : Type} {a : Array α} {x y : α} (h : a.toList = [x, y]) : a = #[x, y] := by cases a; simp at h; simp [h]
theorem toA {ρ : Env} (a : Array Operand) : (evs ρ a.toList).toArray = a.map (ev ρ) := by rw [evs_eq]; cases a; simp
def Callable (P : Program) (C : List Nat) : Prop := ∀ f, memb f C = true → ∀ (args : Array Value) (w : World), (callFunc f args).run P w = .ok (.enter f args) w
theorem opE_sound {C : List Nat} (hC : Callable P C) {dst : Option Tmp} {op : Op} {ty : TypeId} {pos : String} {af : Array Edge} {g : Option (Nat × Bool)} {ρ : Env} (h : opE P ρ C op ty H K) :
    ∀ w : World, w.heap = H → after P K w ((execOp (ev ρ) ⟨dst, op, ty, pos, af, g⟩).run P w) := by
  cases op <;> first | exact (h : False).elim | skip
  case alloc e =>
    simp only [opE] at h
    split at h
    · rename_i z hz; exact (pAlloc_run hz h).exec rfl
    · exact h.elim
  case box e v => exact (pBox_run h).exec rfl
  case buildSlice t len ps =>
    simp only [opE] at h
    split at h
    · rename_i e ht
      split at h
      · rename_i i z hi hz
        cases hb : (Nat.ble (len * i.size) 16777216 && (Nat.beq (cellsL z).length i.size && Nat.ble 1 i.size)) with
        | false => rw [hb] at h; exact h.elim
        | true =>
          rw [hb] at h
          simp only [Bool.and_eq_true] at hb
          obtain ⟨h1, h2, h3⟩ := hb
          have e1 : execOp (ev ρ) ⟨dst, .buildSlice t len ps, ty, pos, af, g⟩ = (do pure (.value (← Instr.buildSlice t len (evps ρ ps.toList).toArray))) := by
            rw [evps_eq, show ∀ f : Nat × Operand → Nat × Value, (ps.toList.map f).toArray = ps.map f from fun f => by cases ps; simp]; rfl
          exact (pBuildSl_run ht hi hz (Nat.le_of_ble_eq_true h1) (Nat.eq_of_beq_eq_true h2) (Nat.le_of_ble_eq_true h3) h).exec e1
      · exact h.elim
    · exact h.elim
  case store t x v =>
    simp only [opE] at h
    split at h
    · rename_i d i hd hi
      cases ha : isAggT P t with
      | true => rw [ha] at h; exact (pStoreN_run hi h).exec rfl
      | false =>
        rw [ha] at h
        simp only [cond_false] at h
        cases h1 : Nat.beq i.size 1 with
        | false => rw [h1] at h; exact h.elim
        | true => rw [h1] at h; exact (pStore_run hi h1 h).exec rfl
    · exact h.elim
  case convert s d x =>
    simp only [opE] at h
    split at h
    · rename_i e hs hd
      split at h
      · rename_i he; exact (pBytes_run hs hd he h).exec rfl
      · exact h.elim
    · rename_i e e2 hs hd
      split at h
      · rename_i he
        cases hb : Nat.beq s d with
        | false => rw [hb] at h; exact h.elim
        | true =>
          rw [hb] at h
          obtain rfl := Nat.eq_of_beq_eq_true hb
          exact (pMark_run hs he h).exec rfl
      · exact h.elim
    · exact h.elim
  case makeMap t r =>
    cases r with
    | some r => exact (h : False).elim
    | none =>
      intro w hw
      subst hw
      exact ⟨⟨rfl, rfl, rfl, by first | exact Nat.le_refl _ | exact Nat.le_succ _⟩, h⟩
  case makeSlice t l c =>
    simp only [opE] at h
    split at h
    · rename_i e ht
      split at h
      · rename_i i z hi hz
        cases hb : (Nat.beq (cellsL z).length i.size && Nat.ble 1 i.size) with
        | false => rw [hb] at h; exact h.elim
        | true =>
          rw [hb] at h
          simp only [Bool.and_eq_true] at hb
          exact (pMakeSl_run ht hi hz (Nat.eq_of_beq_eq_true hb.1) (Nat.le_of_ble_eq_true hb.2) h).exec rfl
      · exact h.elim
    · exact h.elim
  case mapUpdate t m k v =>
    simp only [opE] at h
    split at h
    · rename_i kt e ht
      split at h
      · rename_i j hu; exact (pMapSet_run ht hu (.inr ⟨⟨j, rfl⟩, rfl⟩) h).exec rfl
      · rename_i hu; exact (pMapSet_run ht hu (.inl ⟨rfl, rfl⟩) h).exec rfl
      · exact h.elim
    · exact h.elim
  case mapEntry t m k => exact (pSem_run h).exec rfl
  case entryStore t m k v =>
    have hr := pSem_run h
    intro w hw
    obtain ⟨v', w', hr, hk⟩ := hr w hw
    have : (Instr.entryStore t (ev ρ m) (ev ρ k) (ev ρ v)).run P w = .ok () w' := by
      simp only [Sem.run_bind] at hr
      cases hx : (Instr.entryStore t (ev ρ m) (ev ρ k) (ev ρ v)).run P w with
      | ok u w2 => rw [hx] at hr; simp at hr; rw [hr.2]
      | halt h w2 => rw [hx] at hr; simp at hr
    have e : execOp (ev ρ) ⟨dst, .entryStore t m k v, ty, pos, af, g⟩ = (do Instr.entryStore t (ev ρ m) (ev ρ k) (ev ρ v); pure .skip) := rfl
    rw [e]; simpa [this, after] using hk
  case makeChan t n => exact (pSem_run h).exec rfl
  case range t x => exact (pSem_run h).exec rfl
  case next it s => exact (pSem_run h).exec rfl
  case entry it => exact (pSem_run h).exec rfl
  case call c =>
    obtain ⟨callee, args, ats⟩ := c
    cases callee with
    | invoke r m => exact (h : False).elim
    | value f =>
      have main : ∀ (fv : Value), ev ρ f = fv → callH P C fv (evs ρ args.toList) H K → ∀ w : World, w.heap = H → after P K w ((execOp (ev ρ) ⟨dst, .call ⟨.value f, args, ats⟩, ty, pos, af, g⟩).run P w) := by
        intro fv hf h w hw
        subst hw
        unfold callH at h
        split at h
        · rename_i gg first cap
          cases hm : memb gg C with
          | false => rw [hm] at h; exact h.elim
          | true =>
            rw [hm] at h
            simp only [cond_true] at h
            have e : (first.toList ++ evs ρ args.toList ++ cap.toList).toArray = first ++ args.map (ev ρ) ++ cap := by
              rw [← toA (ρ := ρ) args]; apply Array.ext'; simp
            rw [e] at h
            have : (execOp (ev ρ) ⟨dst, .call ⟨.value f, args, ats⟩, ty, pos, af, g⟩).run P w = .ok (.enter gg (first ++ args.map (ev ρ) ++ cap)) w := by
              simp only [execOp, resolve, hf, Deferred.ofValue, pure_bind, invoke]
              exact hC gg hm _ w
            rw [this]
            exact ⟨Rest.refl w, h⟩
        · exact h.elim
      simp only [opE] at h
      cases f with
      | func gg =>
        refine main _ rfl ?_
        simpa [callH, ev] using h
      | tmp t => exact main _ rfl h
      | const v => exact main _ rfl h
      | global gg => exact main _ rfl h
    | builtin b =>
      simp only [opE] at h
      unfold builtinE at h
      split at h
      · rename_i s x t u ha ht
        rw [list2 ha, list2 ht]
        have ex : execOp (ev ρ) ⟨dst, .call ⟨.builtin .append, #[s, x], #[t, u]⟩, ty, pos, af, g⟩ = (do pure (.value (← Builtin.append_ #[t, u] ty #[ev ρ s, ev ρ x]))) := by
          simp [execOp, resolve, invoke, builtin]
        split at h
        · rename_i e e2 hu1 hu2
          split at h
          · rename_i i z hi hz
            cases hb : (Nat.ble 1 i.bytes && Nat.ble 1 (cellsL z).length) with
            | false => rw [hb] at h; exact h.elim
            | true =>
              rw [hb] at h
              simp only [Bool.and_eq_true] at hb
              exact (pAppend_run hu1 hu2 (fun k => by simp) hi hz (Nat.le_of_ble_eq_true hb.1) (Nat.le_of_ble_eq_true hb.2) h).exec ex
          · exact h.elim
        · rename_i e hu1 hu2
          split at h
          · rename_i i z hi hz
            cases hb : (Nat.ble 1 i.bytes && Nat.ble 1 (cellsL z).length) with
            | false => rw [hb] at h; exact h.elim
            | true =>
              rw [hb] at h
              simp only [Bool.and_eq_true] at hb
              exact (pAppend_run hu1 hu2 (fun k => by simp) hi hz (Nat.le_of_ble_eq_true hb.1) (Nat.le_of_ble_eq_true hb.2) h).exec ex
          · exact h.elim
        · rename_i e kd hu1 hu2
          split at h
          · rename_i i z hi hz
            cases hb : (Nat.ble 1 i.bytes && (Nat.ble 1 (cellsL z).length && Nat.ble 1 i.size)) with
            | false => rw [hb] at h; exact h.elim
            | true =>
              rw [hb] at h
              simp only [Bool.and_eq_true] at hb
              exact (pAppendZ_run hu1 hu2 hi hz (Nat.le_of_ble_eq_true hb.1) (Nat.le_of_ble_eq_true hb.2.1) (Nat.le_of_ble_eq_true hb.2.2) h).exec ex
          · exact h.elim
        · exact h.elim
      · rename_i d s t u ha ht
        rw [list2 ha, list2 ht]
        split at h
        · rename_i e hu
          split at h
          · rename_i i hi; exact (pCopy_run (u := u) (ty := ty) hu hi h).exec (by simp [execOp, resolve, invoke, builtin])
          · exact h.elim
        · exact h.elim
      · rename_i m k t u ha ht
        rw [list2 ha, list2 ht]
        split at h
        · rename_i kt e hu
          split at h
          · rename_i j hk; exact (pDelete_run (u := u) (ty := ty) hu hk (.inr ⟨⟨j, rfl⟩, rfl⟩) h).exec (by simp [execOp, resolve, invoke, builtin])
          · rename_i hk; exact (pDelete_run (u := u) (ty := ty) hu hk (.inl ⟨rfl, rfl⟩) h).exec (by simp [execOp, resolve, invoke, builtin])
          · exact h.elim
        · exact h.elim
      · rename_i m t ha ht
        rw [list1 ha, list1 ht]
        split at h
        · rename_i kt e hu; exact (pClearM_run (ty := ty) hu h).exec (by simp [execOp, resolve, invoke, builtin])
        · rename_i e hu
          split at h
          · rename_i z hz
            cases hb : Nat.ble 1 (cellsL z).length with
            | false => rw [hb] at h; exact h.elim
            | true => rw [hb] at h; exact (pClearS_run (ty := ty) hu hz (Nat.le_of_ble_eq_true hb) h).exec (by simp [execOp, resolve, invoke, builtin])
          · exact h.elim
        · exact h.elim
      · rename_i x t ha ht
        rw [list1 ha, list1 ht]
        split at h
        · rename_i d e hu; exact (pLenC_run (ty := ty) hu h).exec (by simp [execOp, resolve, invoke, builtin])
        · exact h.elim
      · exact h.elim
end
end Go.Vc
namespace Go.Vc
open Go
set_option linter.unusedSimpArgs false
set_option linter.unusedVariables false
def envOf (a : Act) : Env := fun t => a.tmps.getD t undef
theorem eval_ev (a : Act) : a.eval = ev (envOf a) := by funext x; cases x <;> rfl
theorem envOf_put {a : Act} {dst : Option Tmp} {v : Value} (h : ∀ d, dst = some d → d < a.tmps.size) : envOf (a.put dst v) = (envOf a).put dst v := by
  cases dst with
  | none => rfl
  | some d =>
    funext s
    have hd := h d rfl
    simp only [envOf, Act.put, Env.put, Env.upd]
    by_cases hs : s = d
    · subst hs; simp [hd]
    · have : Nat.beq s d = false := by cases h : Nat.beq s d with | false => rfl | true => exact absurd (Nat.eq_of_beq_eq_true h) hs
      simp [this, Array.getElem?_setIfInBounds_ne (Ne.symm hs)]
def QN (N : Act → World → Prop) : Exit → Act → World → Prop
  | .normal, a, w => N a w
  | _, _, _ => False
theorem QN_lets {N : Act → World → Prop} : ¬ LetsOut (QN N) := fun ⟨_, _, h⟩ => h
section
variable {P : Program} {ops : Array Oper} {N : Act → World → Prop}
def YieldsAt (P : Program) (ops : Array Oper) (o : Oper) (v : Value) (a : Act) (w : World) : Prop :=
  (Region.wanted o (yielded ops a.tmps) = true ∧ (execOp a.eval o).run P w = .ok (.value v) w) ∨ (Region.wanted o (yielded ops a.tmps) = false ∧ v = undef)
theorem YieldsAt.of_same {o : Oper} {v : Value} {a a' : Act} {w : World} (hy : YieldsAt P ops o v a w) (he : execOp a'.eval o = execOp a.eval o)
    (hw : Region.wanted o (yielded ops a'.tmps) = Region.wanted o (yielded ops a.tmps)) : YieldsAt P ops o v a' w := by
  unfold YieldsAt at *
  rw [he, hw]
  exact hy
theorem YieldsAt.wpOp {i : Nat} {o : Oper} {v : Value} {a : Act} {w : World} {Q : Exit → Act → World → Prop} (hi : ops[i]? = some o) (hy : YieldsAt P ops o v a w)
    {K : Act → World → Prop} (h : K (a.put o.dst v) w) : wpOp P ops Q i K a w := by
  unfold Go.wpOp
  simp only [hi]
  rcases hy with ⟨hw, hv⟩ | ⟨hw, rfl⟩
  · simp only [hw, if_true, Oper.wp, hv, Oper.upon]; exact .inl h
  · simp only [hw, Bool.false_eq_true, if_false]; exact h
def Obl (P : Program) (ops : Array Oper) (b : Nat → Nat → Bool) (D : List Nat) (j : Nat) (a : Act) (w w' : World) : Prop :=
  ∀ i ∈ D, b i j = false → ∀ o, ops[i]? = some o → ∀ d, o.dst = some d → YieldsAt P ops o (envOf a d) a w → YieldsAt P ops o (envOf a d) a w'
def wpG (P : Program) (ops : Array Oper) (N : Act → World → Prop) (b : Nat → Nat → Bool) : Nat → Array Bool → List Nat → Act → World → Prop
  | 0, listed, _, a, w => Region.ready .any ops listed = [] ∧ N a w
  | fuel + 1, listed, D, a, w =>
    (Region.ready .any ops listed = [] → N a w) ∧
    ∀ j ∈ Region.ready .any ops listed, wpOp P ops (QN N) j (fun a' w' => Obl P ops b D j a w w' ∧ wpG P ops N b fuel (listed.setIfInBounds j true) D a' w') a w
theorem wpAny_of_G {b : Nat → Nat → Bool} {D : List Nat} : ∀ (fuel : Nat) (listed : Array Bool) (a : Act) (w : World), wpG P ops N b fuel listed D a w → wpAny P .any ops (QN N) fuel listed a w
  | 0, _, _, _, h => h
  | fuel + 1, _, _, _, h => ⟨h.1, fun i hi => wpOp_mono (fun a' w' h' => wpAny_of_G fuel _ a' w' h'.2) (h.2 i hi)⟩
theorem wpOp_shift {j : Nat} {oi oj : Oper} {v : Value} (hj : ops[j]? = some oj) (hap : oi.apart ops oj = true)
    (hsj : ∀ cs b, oj.op ≠ .select cs b) {K : Act → World → Prop} {a : Act} {w : World}
    (h : wpOp P ops (QN N) j K (a.put oi.dst v) w) :
    wpOp P ops (QN N) j (fun a' w' => (∃ u, a'.tmps = (a.put oj.dst u).tmps) ∧ K (a'.put oi.dst v) w') a w := by
  obtain ⟨h1, h2, h3⟩ := Oper.apart_spec hap
  unfold wpOp at *
  simp only [hj] at *
  rw [wanted_put oj a oi.dst v h1] at h
  split
  · rename_i hw
    simp only [hw, if_true] at h
    rcases h with h | ⟨_, hlets⟩
    case inr => exact (QN_lets hlets).elim
    refine .inl ?_
    unfold Oper.wp at *
    rw [execOp_put oj hsj a oi.dst v h1] at h
    generalize hr : (execOp a.eval oj).run P w = r at *
    cases r with
    | ok n w' =>
      cases n <;> simp only [Oper.upon] at h ⊢
      case value u => exact ⟨⟨u, rfl⟩, by rw [← Act.put_comm a v u h2]; exact h⟩
      case skip => exact ⟨⟨_, rfl⟩, by rw [← Act.put_comm a v undef h2]; exact h⟩
      case defer d =>
        refine ⟨⟨undef, by cases oj.dst <;> rfl⟩, ?_⟩
        rw [← Act.put_comm _ v undef h2, ← Act.put_defers]
        exact h
      case enter f args =>
        refine Calls.mono h fun e w'' he => ?_
        cases e with
        | returned u => exact ⟨⟨u, rfl⟩, by rw [← Act.put_comm a v u h2]; exact he⟩
        | panicked c => exact he
        | outgrown => exact he
      case row row args => exact Rows.mono h fun u w'' he => ⟨⟨u, rfl⟩, by rw [← Act.put_comm a v u h2]; exact he⟩
    | halt x w' =>
      cases x <;> simp only [Oper.upon] at h ⊢
      case panic u => exact h
  · rename_i hw
    simp only [hw] at h
    exact ⟨⟨_, rfl⟩, by rw [← Act.put_comm a v undef h2]; exact h⟩
theorem YieldsAt.of_tmps {o : Oper} {v : Value} {a a' : Act} {w : World} (hy : YieldsAt P ops o v a w) (h : a'.tmps = a.tmps) : YieldsAt P ops o v a' w := by
  have he : a'.eval = a.eval := by funext x; cases x <;> simp [Act.eval, h]
  exact hy.of_same (by rw [he]) (by rw [h])
theorem YieldsAt.put {o : Oper} {v u : Value} {a : Act} {w : World} {dst : Option Tmp} (hs : ∀ cs b, o.op ≠ .select cs b) (hd : ∀ d, dst = some d → d ∉ o.looksAt ops) : YieldsAt P ops o v (a.put dst u) w ↔ YieldsAt P ops o v a w := by
  constructor
  · intro h
    exact h.of_same (execOp_put o hs a dst u hd).symm (wanted_put o a dst u hd).symm
  · intro h
    exact h.of_same (execOp_put o hs a dst u hd) (wanted_put o a dst u hd)
def Closed (ops : Array Oper) (listed : Array Bool) : Prop := ∀ (k : Nat) (o : Oper), ops[k]? = some o → listed.getD k false = true → ∀ e ∈ o.after, Region.binds .any e = true → listed.getD e.on false = true
theorem Closed.add {listed : Array Bool} {j : Nat} (h : Closed ops listed) (hj : j ∈ Region.ready .any ops listed) : Closed ops (listed.setIfInBounds j true) := by
  obtain ⟨_, oj, hoj, hall⟩ := mem_ready.1 hj
  intro k o ho hk e he hb
  by_cases hkj : j = k
  · subst hkj
    rw [hoj] at ho
    obtain rfl := Option.some.inj ho
    exact getD_set_true (hall e he hb)
  · rw [getD_set_ne false hkj] at hk
    exact getD_set_true (h k o ho hk e he hb)
def okB (ops : List Oper) (Bs : List Nat) : Bool := Bs.zipIdx.all fun (x, j) => match ops[j]? with
  | some o => Nat.beq (x ||| o.after.toList.foldl (fun s e => bif Region.binds .any e && Nat.blt e.on j then s ||| 2 ^ e.on ||| Bs.getD e.on 0 else s) 0) (o.after.toList.foldl (fun s e => bif Region.binds .any e && Nat.blt e.on j then s ||| 2 ^ e.on ||| Bs.getD e.on 0 else s) 0)
  | none => Nat.beq x 0
def bOf (Bs : List Nat) (i j : Nat) : Bool := (Bs.getD j 0).testBit i
theorem foldl_bit {Bs : List Nat} {i j : Nat} : ∀ (l : List Edge) (s : Nat), (l.foldl (fun s e => bif Region.binds .any e && Nat.blt e.on j then s ||| 2 ^ e.on ||| Bs.getD e.on 0 else s) s).testBit i = true →
    s.testBit i = true ∨ ∃ e ∈ l, Region.binds .any e = true ∧ e.on < j ∧ (e.on = i ∨ bOf Bs i e.on = true)
  | [], s, h => .inl h
  | e :: l, s, h => by
    simp only [List.foldl_cons] at h
    rcases foldl_bit l _ h with h | ⟨e', he', h⟩
    · cases hb : (Region.binds .any e && Nat.blt e.on j) with
      | false => rw [hb] at h; exact .inl h
      | true =>
        rw [hb] at h
        simp only [cond_true, Nat.testBit_or, Bool.or_eq_true] at h
        simp only [Bool.and_eq_true] at hb
        have hlt : e.on < j := by have := hb.2; rwa [Nat.blt_eq] at this
        rcases h with (h | h) | h
        · exact .inl h
        · rw [Nat.testBit_two_pow] at h
          exact .inr ⟨e, by simp, hb.1, hlt, .inl (by simpa using h)⟩
        · exact .inr ⟨e, by simp, hb.1, hlt, .inr h⟩
    · exact .inr ⟨e', List.mem_cons_of_mem _ he', h⟩
theorem bOf_listed {Bs : List Nat} (hB : okB ops.toList Bs = true) {listed : Array Bool} (hc : Closed ops listed) : ∀ (n j i : Nat), j < n → bOf Bs i j = true → (∀ o, ops[j]? = some o → ∀ e ∈ o.after, Region.binds .any e = true → listed.getD e.on false = true) → listed.getD i false = true := by
  intro n
  induction n with
  | zero => intro j i h; omega
  | succ n ih =>
    intro j i hj hb hall
    unfold okB at hB
    rw [List.all_eq_true] at hB
    unfold bOf at hb
    cases hx : Bs[j]? with
    | none => simp [List.getD_eq_getElem?_getD, hx] at hb
    | some x =>
      rw [List.getD_eq_getElem?_getD, hx] at hb
      simp only [Option.getD_some] at hb
      have hm := hB (x, j) (by rw [List.mem_zipIdx_iff_getElem?]; exact hx)
      simp only at hm
      cases ho : ops.toList[j]? with
      | none =>
        rw [ho] at hm
        have := Nat.eq_of_beq_eq_true hm
        subst this
        simp at hb
      | some o =>
        rw [ho] at hm
        have heq := Nat.eq_of_beq_eq_true hm
        have hbit : (x ||| o.after.toList.foldl (fun s e => bif Region.binds .any e && Nat.blt e.on j then s ||| 2 ^ e.on ||| Bs.getD e.on 0 else s) 0).testBit i = true := by
          rw [Nat.testBit_or, hb]; rfl
        rw [heq] at hbit
        have ho' : ops[j]? = some o := by simpa using ho
        rcases foldl_bit _ _ hbit with h | ⟨e, he, hbd, hlt, h⟩
        · simp at h
        · have hl := hall o ho' e (by simpa using he) hbd
          rcases h with h | h
          · rw [← h]; exact hl
          · exact ih e.on i (by omega) h (fun o2 ho2 e2 he2 hb2 => hc e.on o2 ho2 hl e2 he2 hb2)
theorem wpG_less {b : Nat → Nat → Bool} {D D' : List Nat} (hD : ∀ k ∈ D, k ∈ D') : ∀ (fuel : Nat) (listed : Array Bool) (a : Act) (w : World), wpG P ops N b fuel listed D' a w → wpG P ops N b fuel listed D a w
  | 0, _, _, _, h => h
  | fuel + 1, _, _, _, h => ⟨h.1, fun i hi => wpOp_mono (fun a' w' h' => ⟨fun k hk => h'.1 k (hD k hk), wpG_less hD fuel _ a' w' h'.2⟩) (h.2 i hi)⟩
def putApart (ops : Array Oper) (x y : Oper) : Bool := match x.dst with
  | some d => !(y.looksAt ops).contains d && y.dst != some d
  | none => true
theorem putApart_spec {x y : Oper} (h : putApart ops x y = true) : (∀ d, x.dst = some d → d ∉ y.looksAt ops) ∧ (∀ d, x.dst = some d → y.dst ≠ some d) := by
  constructor <;> intro d hd <;> simp [putApart, hd] at h
  · exact h.1
  · exact h.2
theorem wpG_first {b : Nat → Nat → Bool} {i : Nat} {oi : Oper} {v : Value} {D D' : List Nat} (hi : ops[i]? = some oi) (hsel : ∀ (j : Nat) (o : Oper) cs b, ops[j]? = some o → o.op ≠ .select cs b)
    (hself : ∀ d, oi.dst = some d → d ∉ oi.looksAt ops) (hD : ∀ k ∈ D, ∀ ok, ops[k]? = some ok → putApart ops oi ok = true)
    (hbl : ∀ listed : Array Bool, Closed ops listed → ∀ j ∈ Region.ready .any ops listed, b i j = true → listed.getD i false = true) :
    ∀ (fuel : Nat) (listed : Array Bool) (a : Act) (w : World), (∀ d, oi.dst = some d → d < a.tmps.size) → Closed ops listed →
      (∀ j oj, ops[j]? = some oj → j ≠ i → listed.getD j true = false → (∀ e ∈ oj.after, Region.binds .any e = true → e.on ≠ i) → oi.apart ops oj = true) →
      i ∈ Region.ready .any ops listed → ((D' = i :: D ∧ oi.dst ≠ none ∧ YieldsAt P ops oi v a w) ∨ (D' = D ∧ ∀ w', YieldsAt P ops oi v a w')) →
      wpG P ops N b fuel (listed.setIfInBounds i true) D' (a.put oi.dst v) w → wpG P ops N b (fuel + 1) listed D a w := by
  intro fuel
  induction fuel with
  | zero =>
    intro listed a w _ _ _ hr hy H
    refine ⟨fun h => (by rw [h] at hr; cases hr), fun j hj => ?_⟩
    by_cases hji : j = i
    · subst hji
      have hy' : YieldsAt P ops oi v a w := by rcases hy with ⟨_, _, h⟩ | ⟨_, h⟩; exact h; exact h w
      exact hy'.wpOp hi ⟨fun _ _ _ _ _ _ _ h => h, H⟩
    · have := ready_mono hj hji
      rw [H.1] at this
      cases this
  | succ fuel ih =>
    intro listed a w hsz hcl hfree hr hy H
    refine ⟨fun h => (by rw [h] at hr; cases hr), fun j hj => ?_⟩
    have hy' : YieldsAt P ops oi v a w := by rcases hy with ⟨_, _, h⟩ | ⟨_, h⟩; exact h; exact h w
    have hD' : ∀ k ∈ D, k ∈ D' := by rcases hy with ⟨rfl, _⟩ | ⟨rfl, _⟩; exact fun k hk => List.mem_cons_of_mem _ hk; exact fun k hk => hk
    by_cases hji : j = i
    · subst hji
      refine hy'.wpOp hi ⟨fun _ _ _ _ _ _ _ h => h, ?_⟩
      exact wpG_less hD' _ _ _ _ H
    · have h1 := H.2 j (ready_mono hj hji)
      obtain ⟨hjun, oj, hoj, hall⟩ := mem_ready.1 hj
      have hun : listed.getD i false = false := by
        have := (mem_ready.1 hr).1
        rcases Nat.lt_or_ge i listed.size with h' | h'
        · simpa [h'] using this
        · simp [Array.getElem?_eq_none h'] at this
      have hnot : ∀ e ∈ oj.after, Region.binds .any e = true → e.on ≠ i := fun e he hb heq => by
        have h1 := hall e he hb
        rw [heq, hun] at h1
        cases h1
      have hap := hfree j oj hoj hji hjun hnot
      obtain ⟨g1, g2, g3⟩ := Oper.apart_spec hap
      have h2 := wpOp_shift hoj hap (fun cs b => hsel j oj cs b hoj) h1
      have hbij : b i j = false := by
        cases hb : b i j with
        | false => rfl
        | true => rw [hbl listed hcl j hj hb] at hun; cases hun
      have hfree' : ∀ k ok, ops[k]? = some ok → k ≠ i → (listed.setIfInBounds j true).getD k true = false →
          (∀ e ∈ ok.after, Region.binds .any e = true → e.on ≠ i) → oi.apart ops ok = true := fun k ok hk hki hun hno => by
        refine hfree k ok hk hki ?_ hno
        by_cases hjk : j = k
        · subst hjk; exact hjun
        · rw [getD_set_ne true hjk] at hun; exact hun
      refine wpOp_mono (fun a' w' h3 => ?_) h2
      obtain ⟨⟨u, hu⟩, hob, h3⟩ := h3
      refine ⟨?_, ih (listed.setIfInBounds j true) a' w' ?_ (hcl.add hj) hfree' (ready_mono hr (Ne.symm hji)) ?_ ?_⟩
      · intro k hk hbk o ho d hd hyk
        have hko := hD k hk o ho
        obtain ⟨k1, k2⟩ := putApart_spec hko
        have hen : envOf (a.put oi.dst v) d = envOf a d := by
          cases hdi : oi.dst with
          | none => rfl
          | some di =>
            have hne : di ≠ d := fun e => k2 di hdi (by rw [hd, e])
            simp [envOf, Act.put, Array.getElem?_setIfInBounds_ne hne]
        have := hob k (hD' k hk) hbk o ho d hd
        rw [hen, YieldsAt.put (hsel k o · · ho) k1, YieldsAt.put (hsel k o · · ho) k1] at this
        exact this hyk
      · intro d hd
        rw [hu]
        have := hsz d hd
        cases oj.dst <;> simpa [Act.put] using this
      · rcases hy with ⟨hDe, hne, hy⟩ | ⟨hDe, hy⟩
        · refine .inl ⟨hDe, hne, ?_⟩
          obtain ⟨d, hd⟩ := Option.ne_none_iff_exists'.1 hne
          have hen : envOf (a.put oi.dst v) d = v := by
            have := hsz d hd
            simp [envOf, Act.put, hd, this]
          have := hob i (by rw [hDe]; simp) hbij oi hi d hd
          rw [hen, YieldsAt.put (hsel i oi · · hi) hself, YieldsAt.put (hsel i oi · · hi) hself] at this
          have h4 := (YieldsAt.put (u := u) (dst := oj.dst) (hsel i oi · · hi) (fun d hd => g3 d hd)).2 (this hy)
          exact h4.of_tmps hu
        · refine .inr ⟨hDe, fun w2 => ?_⟩
          have h4 := (YieldsAt.put (u := u) (dst := oj.dst) (hsel i oi · · hi) (fun d hd => g3 d hd)).2 (hy w2)
          exact h4.of_tmps hu
      · rw [Array.setIfInBounds_comm _ _ hji]
        exact h3
end
end Go.Vc
namespace Go.Vc
open Go
set_option linter.unusedSimpArgs false
set_option linter.unusedVariables false
structure Ok (n : Nat) (a : Act) : Prop where
  size : a.tmps.size = n
  defers : a.defers = []
theorem Ok.put {n : Nat} {a : Act} (h : Ok n a) (dst : Option Tmp) (v : Value) : Ok n (a.put dst v) := by
  cases dst with
  | none => exact h
  | some d => exact ⟨by simpa [Act.put] using h.size, h.defers⟩
structure Chk where
  n : Nat
  qOk : List Nat → Nat → Bool
  eOk : List Nat → List Nat → Bool
  stOk : List Nat → Nat → List Nat → Bool
section
variable (P : Program) (ops : Array Oper)
def Quiet (i : Nat) (v : Value) (a : Act) (w : World) : Prop := ∃ o, ops[i]? = some o ∧
  ((Region.wanted o (yielded ops a.tmps) = true ∧ ((cls P o.op = 0 ∧ ∀ w', (execOp a.eval o).run P w' = .ok (.value v) w') ∨ (cls P o.op = 1 ∧ ∀ w', w'.heap = w.heap → (execOp a.eval o).run P w' = .ok (.value v) w'))) ∨
   (Region.wanted o (yielded ops a.tmps) = false ∧ v = undef))
def StabOk (st : List Nat) (a : Act) (w' : World) : Prop := ∀ k ∈ st, ∀ o, ops[k]? = some o → ∀ d, o.dst = some d → (execOp a.eval o).run P w' = .ok (.value (envOf a d)) w'
def EStep (X : List Nat → Act → World → Prop) (done : List Nat) (i : Nat) (st : List Nat) (a : Act) (w : World) : Prop := ∃ o, ops[i]? = some o ∧ Region.wanted o (yielded ops a.tmps) = true ∧
  o.wp P a w (fun a' w' => (∃ v, a' = a.put o.dst v) ∧ Rest w w' ∧ StabOk P ops st a w' ∧ X (i :: done) a' w') (QN fun _ _ => False)
structure Runner (ck : Chk) where
  X : List Nat → Act → World → Prop
  quiet : ∀ done i a w, Ok ck.n a → ck.qOk done i = true → (∃ v o, ops[i]? = some o ∧ Quiet P ops i v a w ∧ (∀ d, o.dst = some d → d < ck.n) ∧ X (i :: done) (a.put o.dst v) w) → X done a w
  effect : ∀ done (hs : List (Nat × List Nat)) a w, Ok ck.n a → ck.eOk done (hs.map (·.1)) = true → (∀ h ∈ hs, ck.stOk done h.1 h.2 = true ∧ EStep P ops X done h.1 h.2 a w) → X done a w
end
def heads : Plan → List (Nat × List Nat)
  | .op i st _ => [(i, st)]
  | .fork a b => heads a ++ heads b
  | _ => []
def curOk (cur : Option (Nat × Bool × Nat)) (o : Oper) : Bool := match cur, o.guard with
  | none, none => true
  | some (c, w, t), some (c', w') => Nat.beq c c' && (w == w') && (match o.dst with | some d => !Nat.beq d t | none => true)
  | _, _ => false
def dstLt (n : Nat) (o : Oper) : Bool := match o.dst with
  | some d => Nat.blt d n
  | none => true
def skipP (ops : List Oper) (c : Nat) (want : Bool) : Plan → List Nat → Bool
  | .nil, _ => true
  | .op i _ r, sk => match ops[i]? with
    | some o => match o.guard with
      | some (g, b) => (Nat.beq g c && (b == want) || memb g sk) && skipP ops c want r (i :: sk)
      | none => false
    | none => false
  | .grp _ body p r, sk => skipP ops c want body sk && (match ops[p]? with
    | some o => match o.guard with
      | some (g, b) => (Nat.beq g c && (b == want) || memb g sk)
      | none => false
    | none => false) && skipP ops c want r sk
  | .fork _ _, _ => false
def curFree (cur : Option (Nat × Bool × Nat)) (l : List Nat) : Bool := match cur with
  | some (_, _, t0) => !memb t0 l
  | none => true
def pickOf (o : Op) : Option (Nat × Nat × Bool) := match o with
  | .pick (.tmp t) (.tmp u) (.const (.bool false)) => some (t, u, true)
  | .pick (.tmp t) (.const (.bool true)) (.tmp u) => some (t, u, false)
  | _ => none
section
variable {P : Program} {ops : Array Oper} {ck : Chk}
def chkP (P : Program) (ops : Array Oper) (ck : Chk) : Plan → Bool → Option (Nat × Bool × Nat) → List Nat → (List Nat → Bool) → Bool
  | .nil, fl, _, done, k => !fl && k done
  | .op i st r, fl, cur, done, k => match ops.toList[i]? with
    | some o => curOk cur o && dstLt ck.n o && (match cls P o.op with
        | 0 | 1 => !fl && st.isEmpty && ck.qOk done i
        | _ => (fl || ck.eOk done [i]) && ck.stOk done i st && (cur.isNone || ck.qOk done i)) && chkP P ops ck r false cur (i :: done) k
    | none => false
  | .grp c body p r, fl, cur, done, k => match ops.toList[p]?, ops.toList[c]? with
    | some o, some oc => match pickOf o.op with
      | some (t, _, want) => !fl && curOk cur o && dstLt ck.n o && (match oc.dst with | some t' => Nat.beq t t' | none => false) && !memb t (dstsOf ops.toList body) &&
          curFree cur (dstsOf ops.toList body) && skipP ops.toList c want body [] &&
          chkP P ops ck body false (some (c, want, t)) done fun d => ck.qOk d p && chkP P ops ck r false cur (p :: d) k
      | none => false
    | _, _ => false
  | .fork a b, fl, cur, done, k => cur.isNone && (fl || ck.eOk done ((heads a ++ heads b).map (·.1))) && chkP P ops ck a true none done k && chkP P ops ck b true none done k
theorem yielded_env {a : Act} {c t : Nat} {b : Bool} {oc : Oper} (hc : ops[c]? = some oc) (hd : oc.dst = some t) (h : envOf a t = .bool b) : yielded ops a.tmps c = some b := by
  have : a.tmps[t]? = some (.bool b) := by
    unfold envOf at h
    rw [Array.getD_eq_getD_getElem?] at h
    cases hx : a.tmps[t]? with
    | none => rw [hx] at h; simp [undef] at h
    | some v => rw [hx] at h; simp at h; rw [h]
  simp [yielded, hc, hd, this]
theorem yielded_env_undef {a : Act} {c : Nat} {oc : Oper} (hc : ops[c]? = some oc) (h : ∀ t, oc.dst = some t → envOf a t = undef) : yielded ops a.tmps c = none := by
  unfold yielded
  cases hd : oc.dst with
  | none => simp [hc, hd]
  | some t =>
    have h := h t hd
    cases hx : a.tmps[t]? with
    | none => simp [hc, hd, hx]
    | some v =>
      unfold envOf at h
      rw [Array.getD_eq_getD_getElem?, hx] at h
      simp at h
      simp [hc, hd, hx, h, undef]
def CurAt (ops : Array Oper) (cur : Option (Nat × Bool × Nat)) (a : Act) : Prop := match cur with
  | none => True
  | some (c, want, t) => (∃ oc, ops[c]? = some oc ∧ oc.dst = some t) ∧ envOf a t = .bool want
theorem curOk_wanted {cur : Option (Nat × Bool × Nat)} {o : Oper} {a : Act} (hk : curOk cur o = true) (hc : CurAt ops cur a) : Region.wanted o (yielded ops a.tmps) = true := by
  unfold curOk at hk
  unfold Region.wanted
  split at hk
  · rename_i h; rw [h]
  · rename_i c w t c' w' h
    rw [h]
    simp only [Bool.and_eq_true, beq_iff_eq] at hk
    obtain ⟨⟨h1, h2⟩, _⟩ := hk
    have h1 := Nat.eq_of_beq_eq_true h1
    subst h1; subst h2
    obtain ⟨⟨oc, h1, h2⟩, h3⟩ := hc
    simp [yielded_env h1 h2 h3]
  · cases hk
theorem envOf_put_ne {n : Nat} {a : Act} {dst : Option Tmp} {v : Value} {s : Nat} (ha : Ok n a) (hd : ∀ d, dst = some d → d < n) (hs : ∀ d, dst = some d → d ≠ s) : envOf (a.put dst v) s = envOf a s := by
  rw [envOf_put (fun d h => by rw [ha.size]; exact hd d h)]
  cases dst with
  | none => rfl
  | some d =>
    have : Nat.beq s d = false := by cases h : Nat.beq s d with | false => rfl | true => exact absurd (Nat.eq_of_beq_eq_true h).symm (hs d rfl)
    simp [Env.put, Env.upd, this]
theorem CurAt.put {n : Nat} {cur : Option (Nat × Bool × Nat)} {o : Oper} {a : Act} {v : Value} (h : CurAt ops cur a) (hk : curOk cur o = true) (ha : Ok n a) (hd : ∀ d, o.dst = some d → d < n) : CurAt ops cur (a.put o.dst v) := by
  cases cur with
  | none => trivial
  | some c =>
    obtain ⟨c, w, t⟩ := c
    refine ⟨h.1, ?_⟩
    have h2 := h.2
    rw [envOf_put_ne ha hd ?_]
    · exact h2
    · intro d hdd he
      subst he
      unfold curOk at hk
      split at hk
      · rename_i h0 _; cases h0
      · rename_i h0 _
        simp only [Option.some.injEq, Prod.mk.injEq] at h0
        obtain ⟨rfl, rfl, rfl⟩ := h0
        rw [hdd] at hk
        simp at hk
      · cases hk
theorem dstLt_spec {n : Nat} {o : Oper} (h : dstLt n o = true) : ∀ d, o.dst = some d → d < n := by
  intro d hd
  unfold dstLt at h
  rw [hd] at h
  rwa [Nat.blt_eq] at h
theorem memb_iff {n : Nat} : ∀ {l : List Nat}, memb n l = true ↔ n ∈ l
  | [] => by simp [memb]
  | m :: r => by
    simp only [memb, List.mem_cons]
    cases h : Nat.beq n m with
    | true => simp [Nat.eq_of_beq_eq_true h]
    | false =>
      have : n ≠ m := fun e => by subst e; simp at h
      simp [this, memb_iff]
theorem memb_false {n : Nat} {l : List Nat} : memb n l = false ↔ n ∉ l := by
  rw [← memb_iff]; simp
def Same (l : List Nat) (a a' : Act) : Prop := ∀ t, t ∉ l → envOf a' t = envOf a t
theorem Same.refl (l : List Nat) (a : Act) : Same l a a := fun _ _ => rfl
theorem Same.trans {l l' : List Nat} {a b c : Act} (h : Same l a b) (k : Same l' b c) : Same (l ++ l') a c := fun t ht => by
  rw [List.mem_append, not_or] at ht
  rw [k t ht.2, h t ht.1]
theorem Same.mono {l l' : List Nat} {a b : Act} (h : Same l a b) (hl : ∀ t ∈ l, t ∈ l') : Same l' a b := fun t ht => h t (fun hm => ht (hl t hm))
theorem Same.put {n : Nat} {a : Act} {dst : Option Tmp} {v : Value} {l : List Nat} (ha : Ok n a) (hd : ∀ d, dst = some d → d < n) (hl : ∀ d, dst = some d → d ∈ l) : Same l a (a.put dst v) := fun t ht =>
  envOf_put_ne ha hd (fun d hd e => ht (by rw [← e]; exact hl d hd))
theorem getL {i : Nat} {o : Oper} (h : ops.toList[i]? = some o) : ops[i]? = some o := by simpa using h
theorem skip_sound {R : Runner P ops ck} {c t : Nat} {want : Bool} {oc : Oper} (hc : ops[c]? = some oc) (hoc : oc.dst = some t) :
    ∀ (p : Plan) (sk : List Nat) (cur : Option (Nat × Bool × Nat)) (done : List Nat) (k : List Nat → Bool) (a : Act) (w : World), skipP ops.toList c want p sk = true → chkP P ops ck p false cur done k = true → cur ≠ none → t ∉ dstsOf ops.toList p →
      Ok ck.n a → envOf a t = .bool (!want) → (∀ g ∈ sk, ∃ og, ops[g]? = some og ∧ ∀ d, og.dst = some d → envOf a d = undef) →
      (∀ done' a', k done' = true → Ok ck.n a' → Same (dstsOf ops.toList p) a a' → (∀ g ∈ sk, ∃ og, ops[g]? = some og ∧ ∀ d, og.dst = some d → envOf a' d = undef) → R.X done' a' w) → R.X done a w := by
  have unw : ∀ (o : Oper) (sk : List Nat) (a : Act), (match o.guard with
      | some (g, b) => (Nat.beq g c && (b == want) || memb g sk)
      | none => false) = true → envOf a t = .bool (!want) → (∀ g ∈ sk, ∃ og, ops[g]? = some og ∧ ∀ d, og.dst = some d → envOf a d = undef) → Region.wanted o (yielded ops a.tmps) = false := by
    intro o sk a h ha hsk
    unfold Region.wanted
    split at h
    · rename_i g b hg
      rw [hg]
      simp only [Bool.or_eq_true, Bool.and_eq_true, beq_iff_eq] at h
      rcases h with ⟨h1, h2⟩ | h
      · have h1 := Nat.eq_of_beq_eq_true h1
        subst h1; subst h2
        simp only [yielded_env hc hoc ha]
        cases b <;> rfl
      · obtain ⟨og, h1, h2⟩ := hsk g (memb_iff.1 h)
        simp only [yielded_env_undef h1 h2]
        rfl
    · cases h
  intro p
  induction p with
  | nil =>
    intro sk cur done k a w hs hk hcur ht ha hen hsk hX
    simp only [chkP, Bool.not_false, Bool.true_and] at hk
    exact hX done a hk ha (Same.refl _ _) hsk
  | op i st r ih =>
    intro sk cur done k a w hs hk hcur ht ha hen hsk hX
    simp only [skipP] at hs
    simp only [chkP] at hk
    cases ho : ops.toList[i]? with
    | none => rw [ho] at hs; cases hs
    | some o =>
      rw [ho] at hs hk
      simp only [Bool.and_eq_true] at hk
      obtain ⟨⟨⟨hco, hlt⟩, hcl⟩, hkr⟩ := hk
      have hlt := dstLt_spec hlt
      have hq : ck.qOk done i = true := by
        split at hcl
        · simp only [Bool.and_eq_true] at hcl; exact hcl.2
        · simp only [Bool.and_eq_true] at hcl; exact hcl.2
        · simp only [Bool.and_eq_true, Bool.or_eq_true] at hcl
          rcases hcl.2 with h | h
          · cases cur with
            | none => exact absurd rfl hcur
            | some _ => simp at h
          · exact h
      have hg : (match o.guard with
          | some (g, b) => (Nat.beq g c && (b == want) || memb g sk)
          | none => false) = true ∧ skipP ops.toList c want r (i :: sk) = true := by
        simp only at hs
        cases hgd : o.guard with
        | none => rw [hgd] at hs; cases hs
        | some gb =>
          rw [hgd] at hs
          simp only [Bool.and_eq_true] at hs
          exact hs
      have hdst : ∀ d, o.dst = some d → d ∈ dstsOf ops.toList (.op i st r) := by
        intro d hd; simp [dstsOf, ho, hd]
      have hsub : ∀ d ∈ dstsOf ops.toList r, d ∈ dstsOf ops.toList (.op i st r) := by
        intro d hd
        simp only [dstsOf, ho]
        cases o.dst <;> simp [hd]
      have ht' : ∀ d, o.dst = some d → d ≠ t := fun d hd e => ht (by rw [← e]; exact hdst d hd)
      refine R.quiet done i a w ha hq ⟨undef, o, getL ho, ⟨o, getL ho, .inr ⟨unw o sk a hg.1 hen hsk, rfl⟩⟩, hlt, ?_⟩
      have hsk' : ∀ g ∈ i :: sk, ∃ og, ops[g]? = some og ∧ ∀ d, og.dst = some d → envOf (a.put o.dst undef) d = undef := by
        intro g hgm
        have key : ∀ d, envOf a d = undef → envOf (a.put o.dst undef) d = undef := by
          intro d hd
          by_cases hdd : o.dst = some d
          · rw [envOf_put (fun d h => by rw [ha.size]; exact hlt d h), hdd]
            simp [Env.put, Env.upd]
          · rw [envOf_put_ne ha hlt (fun d' h e => hdd (by rw [h, e]))]; exact hd
        rcases List.mem_cons.1 hgm with rfl | hgm
        · refine ⟨o, getL ho, fun d hd => ?_⟩
          rw [envOf_put (fun d h => by rw [ha.size]; exact hlt d h), hd]
          simp [Env.put, Env.upd]
        · obtain ⟨og, h1, h2⟩ := hsk g hgm
          exact ⟨og, h1, fun d hd => key d (h2 d hd)⟩
      refine ih (i :: sk) cur (i :: done) k _ w hg.2 hkr hcur (fun h => ht (hsub t h)) (ha.put _ _) (by rw [envOf_put_ne ha hlt ht']; exact hen) hsk' ?_
      intro done' a' hkd ha' hsame hsk''
      refine hX done' a' hkd ha' ?_ (fun g hgm => hsk'' g (List.mem_cons_of_mem _ hgm))
      exact ((Same.put ha hlt hdst).trans (hsame.mono hsub)).mono (by simp)
  | grp c' body p r ihb ihr =>
    intro sk cur done k a w hs hk hcur ht ha hen hsk hX
    simp only [skipP, Bool.and_eq_true] at hs
    obtain ⟨⟨hsb, hsp⟩, hsr⟩ := hs
    simp only [chkP] at hk
    cases hop : ops.toList[p]? with
    | none => rw [hop] at hk; cases hk
    | some op =>
      cases hoc' : ops.toList[c']? with
      | none => rw [hop, hoc'] at hk; cases hk
      | some oc' =>
        rw [hop, hoc'] at hk
        simp only at hk
        cases hpk : pickOf op.op with
        | none => rw [hpk] at hk; cases hk
        | some q =>
          obtain ⟨t', u', want'⟩ := q
          rw [hpk] at hk
          simp only [Bool.and_eq_true] at hk
          obtain ⟨⟨⟨⟨⟨⟨⟨_, hco⟩, hlt⟩, hoc1⟩, hnt⟩, hcurb⟩, hskb⟩, hkb⟩ := hk
          have hlt := dstLt_spec hlt
          rw [hop] at hsp
          have hsubb : ∀ d ∈ dstsOf ops.toList body, d ∈ dstsOf ops.toList (.grp c' body p r) := fun d hd => by simp [dstsOf, hd]
          have hsubr : ∀ d ∈ dstsOf ops.toList r, d ∈ dstsOf ops.toList (.grp c' body p r) := fun d hd => by
            simp only [dstsOf, hop]; cases op.dst <;> simp [hd]
          have hdst : ∀ d, op.dst = some d → d ∈ dstsOf ops.toList (.grp c' body p r) := fun d hd => by simp [dstsOf, hop, hd]
          have ht' : ∀ d, op.dst = some d → d ≠ t := fun d hd e => ht (by rw [← e]; exact hdst d hd)
          refine ihb sk (some (c', want', t')) done _ a w hsb hkb (by simp) (fun h => ht (hsubb t h)) ha hen hsk ?_
          intro done1 a1 hk1 ha1 hs1 hsk1
          simp only [Bool.and_eq_true] at hk1
          have hen1 : envOf a1 t = .bool (!want) := by rw [hs1 t (fun h => ht (hsubb t h))]; exact hen
          refine R.quiet done1 p a1 w ha1 hk1.1 ⟨undef, op, getL hop, ⟨op, getL hop, .inr ⟨unw op sk a1 hsp hen1 hsk1, rfl⟩⟩, hlt, ?_⟩
          have hsk2 : ∀ g ∈ sk, ∃ og, ops[g]? = some og ∧ ∀ d, og.dst = some d → envOf (a1.put op.dst undef) d = undef := by
            intro g hgm
            obtain ⟨og, h1, h2⟩ := hsk1 g hgm
            refine ⟨og, h1, fun d hd => ?_⟩
            by_cases hdd : op.dst = some d
            · rw [envOf_put (fun d h => by rw [ha1.size]; exact hlt d h), hdd]
              simp [Env.put, Env.upd]
            · rw [envOf_put_ne ha1 hlt (fun d' h e => hdd (by rw [h, e]))]; exact h2 d hd
          refine ihr sk cur (p :: done1) k _ w hsr hk1.2 hcur (fun h => ht (hsubr t h)) (ha1.put _ _) (by rw [envOf_put_ne ha1 hlt ht']; exact hen1) hsk2 ?_
          intro done' a' hkd ha' hsame hsk3
          refine hX done' a' hkd ha' ?_ hsk3
          exact ((hs1.mono hsubb).trans ((Same.put ha1 hlt hdst).trans (hsame.mono hsubr))).mono (by simp)
  | fork a b _ _ =>
    intro sk cur done k a w hs
    simp [skipP] at hs
theorem after_wp {K : Value → Heap → Prop} {o : Oper} {a : Act} {w : World} {F : Act → World → Prop} (h : after P K w ((execOp a.eval o).run P w)) (hF : ∀ v w', Rest w w' → K v w'.heap → F (a.put o.dst v) w') :
    o.wp P a w F (QN fun _ _ => False) := by
  unfold Oper.wp
  generalize (execOp a.eval o).run P w = r at h
  cases r with
  | ok n w' =>
    cases n <;> simp only [after] at h
    case value v => exact hF v w' h.1 h.2
    case skip => exact hF undef w' h.1 h.2
    case enter f args =>
      refine (h.2 w' rfl).mono fun e w'' he => ?_
      obtain ⟨v, rfl, hr, hk⟩ := he
      exact hF v w'' (h.1.trans hr) hk
  | halt x w' => simp only [after] at h
theorem stabs_spec {ρ : Env} {H : Heap} {X : Prop} : ∀ {st : List Nat}, stabs P ops.toList ρ H X st → (∀ k ∈ st, reread P ops.toList ρ H k) ∧ X
  | [], h => ⟨by simp, h⟩
  | k :: r, h => by
    obtain ⟨h1, h2⟩ := h
    obtain ⟨h3, h4⟩ := stabs_spec h2
    exact ⟨fun j hj => by rcases List.mem_cons.1 hj with rfl | hj; exact h1; exact h3 j hj, h4⟩
theorem stabOk_of {a : Act} {w' : World} {st : List Nat} (h : ∀ k ∈ st, reread P ops.toList (envOf a) w'.heap k) : StabOk P ops st a w' := by
  intro k hk o ho d hd
  have hr := h k hk
  unfold reread at hr
  rw [show ops.toList[k]? = some o by simpa using ho] at hr
  simp only [hd] at hr
  obtain ⟨dst, op, ty, pos, af, g⟩ := o
  obtain ⟨v, hrun, rfl⟩ := opR_sound (dst := dst) (ty := ty) (pos := pos) (af := af) (g := g) hr
  rw [eval_ev]
  exact hrun w' rfl
variable {C : List Nat}
def GoodA (P : Program) (ops : Array Oper) (C : List Nat) (ck : Chk) (R : Runner P ops ck) (p : Plan) : Prop :=
  ∀ (cur : Option (Nat × Bool × Nat)) (done : List Nat) (k : List Nat → Bool) (K : Env → Heap → Prop) (a : Act) (w : World), chkP P ops ck p false cur done k = true → Ok ck.n a → CurAt ops cur a →
    vcP P C ops.toList p (envOf a) w.heap K → (∀ done' a' w', k done' = true → Ok ck.n a' → Same (dstsOf ops.toList p) a a' → Rest w w' → CurAt ops cur a' → K (envOf a') w'.heap → R.X done' a' w') → R.X done a w
def GoodB (P : Program) (ops : Array Oper) (C : List Nat) (ck : Chk) (R : Runner P ops ck) (p : Plan) : Prop :=
  ∀ (done : List Nat) (k : List Nat → Bool) (K : Env → Heap → Prop) (a : Act) (w : World), chkP P ops ck p true none done k = true → Ok ck.n a →
    vcP P C ops.toList p (envOf a) w.heap K → (∀ done' a' w', k done' = true → Ok ck.n a' → Same (dstsOf ops.toList p) a a' → Rest w w' → K (envOf a') w'.heap → R.X done' a' w') →
    ∀ h ∈ heads p, ck.stOk done h.1 h.2 = true ∧ EStep P ops R.X done h.1 h.2 a w
theorem plan_estep (hC : Callable P C) {R : Runner P ops ck} {i : Nat} {st : List Nat} {r : Plan} (ih : GoodA P ops C ck R r) {o : Oper} (ho : ops.toList[i]? = some o) (hcls : cls P o.op ≠ 0 ∧ cls P o.op ≠ 1)
    {cur : Option (Nat × Bool × Nat)} {done : List Nat} {k : List Nat → Bool} {K : Env → Heap → Prop} {a : Act} {w : World} (hco : curOk cur o = true) (hlt : ∀ d, o.dst = some d → d < ck.n) (hkr : chkP P ops ck r false cur (i :: done) k = true) (ha : Ok ck.n a) (hcur : CurAt ops cur a)
    (hv : vcP P C ops.toList (.op i st r) (envOf a) w.heap K) (hX : ∀ done' a' w', k done' = true → Ok ck.n a' → Same (dstsOf ops.toList (.op i st r)) a a' → Rest w w' → CurAt ops cur a' → K (envOf a') w'.heap → R.X done' a' w') :
    EStep P ops R.X done i st a w := by
  simp only [vcP, ho] at hv
  have hE : ∀ w1 : World, w1.heap = w.heap → after P (fun v H' => stabs P ops.toList (envOf a) H' (vcP P C ops.toList r ((envOf a).put o.dst v) H' K) st) w1 ((execOp (ev (envOf a)) o).run P w1) := by
    unfold opH at hv
    obtain ⟨dst, op, ty, pos, af, g⟩ := o
    split at hv
    · rename_i h0; exact absurd h0 hcls.1
    · rename_i h1; exact absurd h1 hcls.2
    · exact opE_sound hC hv
  refine ⟨o, getL ho, curOk_wanted hco hcur, after_wp (by rw [eval_ev]; exact hE w rfl) fun v w' hr hk => ?_⟩
  obtain ⟨h1, h2⟩ := stabs_spec hk
  refine ⟨⟨v, rfl⟩, hr, stabOk_of h1, ?_⟩
  have hdst : ∀ d, o.dst = some d → d ∈ dstsOf ops.toList (.op i st r) := by intro d hd; simp [dstsOf, ho, hd]
  have hsub : ∀ d ∈ dstsOf ops.toList r, d ∈ dstsOf ops.toList (.op i st r) := by
    intro d hd; simp only [dstsOf, ho]; cases o.dst <;> simp [hd]
  refine ih cur (i :: done) k K _ w' hkr (ha.put _ _) (hcur.put hco ha hlt) (by rw [envOf_put (fun d h => by rw [ha.size]; exact hlt d h)]; exact h2) ?_
  intro done' a' w'' hkd ha' hsame hr' hc' hK
  exact hX done' a' w'' hkd ha' (((Same.put ha hlt hdst).trans (hsame.mono hsub)).mono (by simp)) (hr.trans hr') hc' hK
theorem plan_op (hC : Callable P C) {R : Runner P ops ck} {i : Nat} {st : List Nat} {r : Plan} (ih : GoodA P ops C ck R r) : GoodA P ops C ck R (.op i st r) := by
  intro cur done k K a w hk ha hcur hv hX
  simp only [chkP] at hk
  cases ho : ops.toList[i]? with
  | none => rw [ho] at hk; cases hk
  | some o =>
    rw [ho] at hk
    simp only [Bool.and_eq_true] at hk
    obtain ⟨⟨⟨hco, hlt⟩, hcl⟩, hkr⟩ := hk
    have hlt := dstLt_spec hlt
    have hdst : ∀ d, o.dst = some d → d ∈ dstsOf ops.toList (.op i st r) := by intro d hd; simp [dstsOf, ho, hd]
    have hsub : ∀ d ∈ dstsOf ops.toList r, d ∈ dstsOf ops.toList (.op i st r) := by
      intro d hd; simp only [dstsOf, ho]; cases o.dst <;> simp [hd]
    have quiet : ∀ v, st = [] → ck.qOk done i = true → Quiet P ops i v a w → vcP P C ops.toList r ((envOf a).put o.dst v) w.heap K → R.X done a w := by
      intro v _ hq hqu hvr
      refine R.quiet done i a w ha hq ⟨v, o, getL ho, hqu, hlt, ?_⟩
      refine ih cur (i :: done) k K _ w hkr (ha.put _ _) (hcur.put hco ha hlt) (by rw [envOf_put (fun d h => by rw [ha.size]; exact hlt d h)]; exact hvr) ?_
      intro done' a' w'' hkd ha' hsame hr' hc' hK
      exact hX done' a' w'' hkd ha' (((Same.put ha hlt hdst).trans (hsame.mono hsub)).mono (by simp)) hr' hc' hK
    have hv' := hv
    simp only [vcP, ho, opH] at hv
    by_cases h0 : cls P o.op = 0
    · rw [h0] at hcl hv
      simp only [Bool.and_eq_true] at hcl
      have hst : st = [] := by simpa using hcl.1.2
      subst hst
      obtain ⟨dst, op, ty, pos, af, g⟩ := o
      obtain ⟨v, hrun, hk2⟩ := opV_sound (dst := dst) (ty := ty) (pos := pos) (af := af) (g := g) hv
      exact quiet v rfl hcl.2 ⟨_, getL ho, .inl ⟨curOk_wanted hco hcur, .inl ⟨h0, by rw [eval_ev]; exact hrun⟩⟩⟩ hk2
    · by_cases h1 : cls P o.op = 1
      · rw [h1] at hcl hv
        simp only [Bool.and_eq_true] at hcl
        have hst : st = [] := by simpa using hcl.1.2
        subst hst
        obtain ⟨dst, op, ty, pos, af, g⟩ := o
        obtain ⟨v, hrun, hk2⟩ := opR_sound (dst := dst) (ty := ty) (pos := pos) (af := af) (g := g) hv
        exact quiet v rfl hcl.2 ⟨_, getL ho, .inl ⟨curOk_wanted hco hcur, .inr ⟨h1, by rw [eval_ev]; exact hrun⟩⟩⟩ hk2
      · split at hcl
        · rename_i h; exact absurd h h0
        · rename_i h; exact absurd h h1
        · simp only [Bool.and_eq_true, Bool.false_or] at hcl
          refine R.effect done [(i, st)] a w ha (by simpa using hcl.1.1) ?_
          intro h hm
          simp only [List.mem_singleton] at hm
          subst hm
          exact ⟨hcl.1.2, plan_estep hC ih ho ⟨h0, h1⟩ hco hlt hkr ha hcur hv' hX⟩
theorem pickOf_inv {o : Op} {t u : Nat} {want : Bool} (h : pickOf o = some (t, u, want)) : (o = .pick (.tmp t) (.tmp u) (.const (.bool false)) ∧ want = true) ∨ (o = .pick (.tmp t) (.const (.bool true)) (.tmp u) ∧ want = false) := by
  unfold pickOf at h
  split at h
  · simp only [Option.some.injEq, Prod.mk.injEq] at h
    obtain ⟨rfl, rfl, rfl⟩ := h
    exact .inl ⟨rfl, rfl⟩
  · simp only [Option.some.injEq, Prod.mk.injEq] at h
    obtain ⟨rfl, rfl, rfl⟩ := h
    exact .inr ⟨rfl, rfl⟩
  · cases h
theorem mix_same {l : List Nat} {a a' : Act} (h : Same l a a') : (envOf a).mix (envOf a') l = envOf a' := by
  funext s
  simp only [Env.mix]
  cases hm : memb s l with
  | true => rfl
  | false => exact (h s (memb_false.1 hm)).symm
theorem CurAt.same {cur : Option (Nat × Bool × Nat)} {l : List Nat} {a a' : Act} (h : CurAt ops cur a) (hs : Same l a a') (hc : curFree cur l = true) : CurAt ops cur a' := by
  cases cur with
  | none => trivial
  | some c =>
    obtain ⟨c, w, t⟩ := c
    refine ⟨h.1, ?_⟩
    simp only [curFree, Bool.not_eq_true'] at hc
    rw [hs t (memb_false.1 hc)]
    exact h.2
theorem plan_grp {R : Runner P ops ck} {c p : Nat} {body r : Plan} (ihb : GoodA P ops C ck R body) (ihr : GoodA P ops C ck R r) : GoodA P ops C ck R (.grp c body p r) := by
  intro cur done k K a w hk ha hcur hv hX
  simp only [chkP] at hk
  cases hop : ops.toList[p]? with
  | none => rw [hop] at hk; cases hk
  | some op =>
    cases hoc' : ops.toList[c]? with
    | none => rw [hop, hoc'] at hk; cases hk
    | some oc =>
      rw [hop, hoc'] at hk
      simp only at hk
      cases hpk : pickOf op.op with
      | none => rw [hpk] at hk; cases hk
      | some q =>
        obtain ⟨t, u, want⟩ := q
        rw [hpk] at hk
        simp only [Bool.and_eq_true] at hk
        obtain ⟨⟨⟨⟨⟨⟨⟨_, hco⟩, hlt⟩, hoc1⟩, hnt⟩, hcurb⟩, hskb⟩, hkb⟩ := hk
        have hlt := dstLt_spec hlt
        have hoct : oc.dst = some t := by
          split at hoc1
          · rename_i t' h; rw [h, Nat.eq_of_beq_eq_true hoc1]
          · cases hoc1
        have hnt : t ∉ dstsOf ops.toList body := memb_false.1 (by simpa using hnt)
        have hsubb : ∀ d ∈ dstsOf ops.toList body, d ∈ dstsOf ops.toList (.grp c body p r) := fun d hd => by simp [dstsOf, hd]
        have hsubr : ∀ d ∈ dstsOf ops.toList r, d ∈ dstsOf ops.toList (.grp c body p r) := fun d hd => by
          simp only [dstsOf, hop]; cases op.dst <;> simp [hd]
        have hdst : ∀ d, op.dst = some d → d ∈ dstsOf ops.toList (.grp c body p r) := fun d hd => by simp [dstsOf, hop, hd]
        -- behind the pick
        have rest : ∀ (v : Value) (done1 : List Nat) (a1 : Act) (w1 : World), (ck.qOk done1 p && chkP P ops ck r false cur (p :: done1) k) = true → Ok ck.n a1 → Same (dstsOf ops.toList body) a a1 → Rest w w1 →
            (∀ w', (execOp a1.eval op).run P w' = .ok (.value v) w') → (∀ junk : Env, vcP P C ops.toList r (((envOf a).mix junk (dstsOf ops.toList body)).put op.dst v) w1.heap K) → R.X done1 a1 w1 := by
          intro v done1 a1 w1 hk1 ha1 hs1 hr1 hrun hvr
          simp only [Bool.and_eq_true] at hk1
          have hcur1 := hcur.same hs1 hcurb
          have hcls : cls P op.op = 0 := by rcases pickOf_inv hpk with ⟨h, _⟩ | ⟨h, _⟩ <;> rw [h] <;> rfl
          refine R.quiet done1 p a1 w1 ha1 hk1.1 ⟨v, op, getL hop, ⟨op, getL hop, .inl ⟨curOk_wanted hco hcur1, .inl ⟨hcls, hrun⟩⟩⟩, hlt, ?_⟩
          have hvr1 := hvr (envOf a1)
          rw [mix_same hs1] at hvr1
          refine ihr cur (p :: done1) k K _ w1 hk1.2 (ha1.put _ _) (hcur1.put hco ha1 hlt) (by rw [envOf_put (fun d h => by rw [ha1.size]; exact hlt d h)]; exact hvr1) ?_
          intro done' a' w'' hkd ha' hsame hr' hc' hK
          exact hX done' a' w'' hkd ha' (((hs1.mono hsubb).trans ((Same.put ha1 hlt hdst).trans (hsame.mono hsubr))).mono (by simp)) (hr1.trans hr') hc' hK
        have notwant : envOf a t = .bool (!want) → (∀ done1 a1, (ck.qOk done1 p && chkP P ops ck r false cur (p :: done1) k) = true → Ok ck.n a1 → Same (dstsOf ops.toList body) a a1 → R.X done1 a1 w) → R.X done a w := by
          intro hen h
          exact skip_sound (getL hoc') hoct body [] (some (c, want, t)) done _ a w hskb hkb (by simp) hnt ha hen (by simp) (fun done' a' h1 h2 h3 _ => h done' a' h1 h2 h3)
        have wants : ∀ (J : Value → Heap → Prop), envOf a t = .bool want → vcP P C ops.toList body (envOf a) w.heap (fun ρ' H' => J (ρ' u) H') →
            (∀ done1 a1 w1, (ck.qOk done1 p && chkP P ops ck r false cur (p :: done1) k) = true → Ok ck.n a1 → Same (dstsOf ops.toList body) a a1 → Rest w w1 → envOf a1 t = .bool want → J (envOf a1 u) w1.heap → R.X done1 a1 w1) → R.X done a w := by
          intro J hen hb h
          exact ihb (some (c, want, t)) done _ _ a w hkb ha ⟨⟨oc, getL hoc', hoct⟩, hen⟩ hb (fun done1 a1 w1 h1 h2 h3 h4 h5 h6 => h done1 a1 w1 h1 h2 h3 h4 h5.2 h6)
        simp only [vcP, hop] at hv
        rcases pickOf_inv hpk with ⟨hform, rfl⟩ | ⟨hform, rfl⟩
        · rw [hform] at hv
          simp only at hv
          cases hen : envOf a t <;> rw [hen] at hv <;> simp only [pAnd] at hv
          rename_i b
          obtain ⟨J, hJ, h0, h1⟩ := hv
          have runs : ∀ (a1 : Act) (bb : Bool), envOf a1 t = .bool bb → ∀ w', (execOp a1.eval op).run P w' = .ok (.value (if bb then envOf a1 u else .bool false)) w' := by
            intro a1 bb hbb w'
            obtain ⟨dst, o, ty, pos, af, g⟩ := op
            simp only at hform
            subst hform
            rw [eval_ev]
            have : ev (envOf a1) (.tmp t) = .bool bb := hbb
            cases bb <;> simp [execOp, this, asBool] <;> rfl
          cases b with
          | false =>
            refine notwant hen fun done1 a1 hk1 ha1 hs1 => ?_
            refine rest (.bool false) done1 a1 w hk1 ha1 hs1 (Rest.refl w) ?_ (hJ _ _ (h0 rfl))
            have := runs a1 false (by rw [hs1 t hnt]; exact hen)
            simpa using this
          | true =>
            refine wants J hen (h1 rfl) fun done1 a1 w1 hk1 ha1 hs1 hr1 hen1 hj => ?_
            refine rest (envOf a1 u) done1 a1 w1 hk1 ha1 hs1 hr1 ?_ (hJ _ _ hj)
            have := runs a1 true hen1
            simpa using this
        · rw [hform] at hv
          simp only at hv
          cases hen : envOf a t <;> rw [hen] at hv <;> simp only [pOr] at hv
          rename_i b
          obtain ⟨J, hJ, h0, h1⟩ := hv
          have runs : ∀ (a1 : Act) (bb : Bool), envOf a1 t = .bool bb → ∀ w', (execOp a1.eval op).run P w' = .ok (.value (if bb then .bool true else envOf a1 u)) w' := by
            intro a1 bb hbb w'
            obtain ⟨dst, o, ty, pos, af, g⟩ := op
            simp only at hform
            subst hform
            rw [eval_ev]
            have : ev (envOf a1) (.tmp t) = .bool bb := hbb
            cases bb <;> simp [execOp, this, asBool] <;> rfl
          cases b with
          | true =>
            refine notwant hen fun done1 a1 hk1 ha1 hs1 => ?_
            refine rest (.bool true) done1 a1 w hk1 ha1 hs1 (Rest.refl w) ?_ (hJ _ _ (h0 rfl))
            have := runs a1 true (by rw [hs1 t hnt]; exact hen)
            simpa using this
          | false =>
            refine wants J hen (h1 rfl) fun done1 a1 w1 hk1 ha1 hs1 hr1 hen1 hj => ?_
            refine rest (envOf a1 u) done1 a1 w1 hk1 ha1 hs1 hr1 ?_ (hJ _ _ hj)
            have := runs a1 false hen1
            simpa using this
theorem plan_all (hC : Callable P C) {R : Runner P ops ck} : ∀ p, GoodA P ops C ck R p ∧ GoodB P ops C ck R p := by
  intro p
  induction p with
  | nil =>
    refine ⟨?_, ?_⟩
    · intro cur done k K a w hk ha hcur hv hX
      simp only [chkP, Bool.not_false, Bool.true_and] at hk
      exact hX done a w hk ha (Same.refl _ _) (Rest.refl w) hcur hv
    · intro done k K a w hk
      simp [chkP] at hk
  | op i st r ih =>
    refine ⟨plan_op hC ih.1, ?_⟩
    intro done k K a w hk ha hv hX h hm
    simp only [heads, List.mem_singleton] at hm
    subst hm
    simp only [chkP] at hk
    cases ho : ops.toList[i]? with
    | none => rw [ho] at hk; cases hk
    | some o =>
      rw [ho] at hk
      simp only [Bool.and_eq_true] at hk
      obtain ⟨⟨⟨hco, hlt⟩, hcl⟩, hkr⟩ := hk
      split at hcl
      · simp at hcl
      · simp at hcl
      · rename_i h0 h1
        simp only [Bool.and_eq_true] at hcl
        exact ⟨hcl.1.2, plan_estep hC ih.1 ho ⟨h0, h1⟩ hco (dstLt_spec hlt) hkr ha trivial hv (fun done' a' w' g1 g2 g0 g3 _ g4 => hX done' a' w' g1 g2 g0 g3 g4)⟩
  | grp c body p r ihb ihr =>
    refine ⟨plan_grp ihb.1 ihr.1, ?_⟩
    intro done k K a w hk
    simp only [chkP] at hk
    split at hk
    · split at hk
      · simp at hk
      · cases hk
    · cases hk
  | fork p q ihp ihq =>
    have hB : GoodB P ops C ck R (.fork p q) := by
      intro done k K a w hk ha hv hX h hm
      simp only [chkP, Bool.and_eq_true] at hk
      obtain ⟨⟨_, hkp⟩, hkq⟩ := hk
      simp only [vcP] at hv
      rcases List.mem_append.1 hm with hm | hm
      · exact ihp.2 done k K a w hkp ha hv.1 (fun done' a' w' g1 g2 g0 => hX done' a' w' g1 g2 (g0.mono (by intro t ht; simp [dstsOf, ht]))) h hm
      · exact ihq.2 done k K a w hkq ha hv.2 (fun done' a' w' g1 g2 g0 => hX done' a' w' g1 g2 (g0.mono (by intro t ht; simp [dstsOf, ht]))) h hm
    refine ⟨?_, hB⟩
    intro cur done k K a w hk ha hcur hv hX
    simp only [chkP, Bool.and_eq_true, Bool.false_or] at hk
    obtain ⟨⟨⟨hn, he⟩, hkp⟩, hkq⟩ := hk
    have hn : cur = none := by cases cur with | none => rfl | some _ => simp at hn
    subst hn
    refine R.effect done (heads p ++ heads q) a w ha he ?_
    intro h hm
    exact hB done k K a w (by simp [chkP, hkp, hkq]) ha hv (fun done' a' w' g1 g2 g0 g3 g4 => hX done' a' w' g1 g2 g0 g3 trivial g4) h hm
end
end Go.Vc
namespace Go.Vc
open Go
set_option linter.unusedSimpArgs false
set_option linter.unusedVariables false
section
variable {P : Program} {ops : Array Oper} {N : Act → World → Prop}
theorem wp_QN {o : Oper} {a : Act} {w : World} {F : Act → World → Prop} {N0 N1 : Act → World → Prop} (h : o.wp P a w F (QN N0)) : o.wp P a w F (QN N1) := by
  unfold Oper.wp at *
  generalize (execOp a.eval o).run P w = r at *
  cases r with
  | ok n w' =>
    cases n <;> simp only [Oper.upon] at h ⊢ <;> first | exact h | skip
  | halt x w' => cases x <;> simp only [Oper.upon] at h ⊢ <;> exact h
theorem Quiet.yields {i : Nat} {v : Value} {a : Act} {w : World} {o : Oper} (ho : ops[i]? = some o) (h : Quiet P ops i v a w) : YieldsAt P ops o v a w := by
  obtain ⟨o', ho', h⟩ := h
  rw [ho] at ho'
  obtain rfl := Option.some.inj ho'
  rcases h with ⟨hw, ⟨_, h⟩ | ⟨_, h⟩⟩ | h
  · exact .inl ⟨hw, h w⟩
  · exact .inl ⟨hw, h w rfl⟩
  · exact .inr h
def textChk (sz n : Nat) : Chk where
  n := n
  qOk done i := Nat.beq i done.length
  eOk done hs := match hs with | [i] => Nat.beq i done.length | _ => false
  stOk _ _ _ := true
theorem drop_range {n i : Nat} (h : i < n) : (List.range n).drop i = i :: (List.range n).drop (i + 1) := by
  rw [List.drop_eq_getElem_cons (by simpa using h)]
  simp
def textRun (P : Program) (ops : Array Oper) (N : Act → World → Prop) (n : Nat) : Runner P ops (textChk ops.size n) where
  X done a w := wpOps P ops (QN N) ((List.range ops.size).drop done.length) a w
  quiet done i a w ha hq h := by
    obtain ⟨v, o, ho, hqu, hd, hx⟩ := h
    have hi : i = done.length := Nat.eq_of_beq_eq_true hq
    subst hi
    have hlt : done.length < ops.size := (Array.getElem?_eq_some_iff.1 ho).1
    rw [drop_range hlt, wpOps_cons]
    exact (hqu.yields ho).wpOp ho hx
  effect done hs a w ha he h := by
    cases hs with
    | nil => simp [textChk] at he
    | cons x r =>
      cases r with
      | cons y r => simp [textChk] at he
      | nil =>
        obtain ⟨i, st⟩ := x
        have hi : i = done.length := Nat.eq_of_beq_eq_true he
        subst hi
        obtain ⟨o, ho, hw, hwp⟩ := (h (done.length, st) (by simp)).2
        have hlt : done.length < ops.size := (Array.getElem?_eq_some_iff.1 ho).1
        rw [drop_range hlt, wpOps_cons]
        unfold wpOp
        simp only [ho, hw, if_true]
        exact .inl (Oper.wp_mono (fun a' w' h => h.2.2.2) (wp_QN hwp))
def listedOf (sz : Nat) (done : List Nat) : Array Bool := done.foldr (fun i l => l.setIfInBounds i true) (Array.replicate sz false)
def readsOf (P : Program) (ops : Array Oper) (done : List Nat) : List Nat := done.filter fun i => match ops[i]? with | some o => Nat.beq (cls P o.op) 1 | none => false
def selfApart (ops : Array Oper) (o : Oper) : Bool := match o.dst with | some d => !(o.looksAt ops).contains d | none => true
def drawChk (P : Program) (ops : Array Oper) (Bs : List Nat) (n : Nat) : Chk where
  n := n
  qOk done i := Nat.blt done.length ops.size && (Region.ready .any ops (listedOf ops.size done)).contains i && Region.free .any ops (listedOf ops.size done) i && (match ops[i]? with
    | some o => selfApart ops o && (o.dst.isSome || !Nat.beq (cls P o.op) 1) && (readsOf P ops done).all fun k => match ops[k]? with | some ok => putApart ops o ok | none => true
    | none => false)
  eOk done hs := Nat.blt done.length ops.size && !hs.isEmpty && (Region.ready .any ops (listedOf ops.size done) == hs)
  stOk done j st := (readsOf P ops done).all fun k => bOf Bs k j || memb k st
def drawRun (P : Program) (ops : Array Oper) (N : Act → World → Prop) (Bs : List Nat) (n : Nat) (hB : okB ops.toList Bs = true) (hS : Region.noSelect ops = true) : Runner P ops (drawChk P ops Bs n) where
  X done a w := Closed ops (listedOf ops.size done) → wpG P ops N (bOf Bs) (ops.size - done.length) (listedOf ops.size done) (readsOf P ops done) a w
  quiet done i a w ha hq h := by
    intro hcl
    obtain ⟨v, o, ho, hqu, hd, hx⟩ := h
    simp only [drawChk, ho, Bool.and_eq_true] at hq
    obtain ⟨⟨⟨hlt, hr⟩, hf⟩, ⟨hself, hdst⟩, hap⟩ := hq
    have hr : i ∈ Region.ready .any ops (listedOf ops.size done) := by simpa using hr
    rw [Nat.blt_eq] at hlt
    rw [show ops.size - done.length = (ops.size - (i :: done).length) + 1 by simp; omega]
    have hcl' := hcl.add hr
    have hx := hx hcl'
    refine wpG_first (D' := readsOf P ops (i :: done)) ho (Region.noSelect_spec hS) ?_ ?_ ?_ _ _ a w (fun d h => by rw [ha.size]; exact hd d h) hcl (Region.free_spec ho hf) hr ?_ hx
    · intro d h
      unfold selfApart at hself
      rw [h] at hself
      simpa using hself
    · intro k hk ok hok
      rw [List.all_eq_true] at hap
      have := hap k hk
      rw [hok] at this
      exact this
    · intro listed hcl2 j hj hb
      obtain ⟨_, oj, hoj, hall⟩ := mem_ready.1 hj
      refine bOf_listed hB hcl2 (j + 1) j i (by omega) hb (fun o2 ho2 e he hbd => ?_)
      rw [hoj] at ho2
      obtain rfl := Option.some.inj ho2
      exact hall e he hbd
    · have hfil : readsOf P ops (i :: done) = if Nat.beq (cls P o.op) 1 = true then i :: readsOf P ops done else readsOf P ops done := by
        simp only [readsOf, List.filter_cons, ho]
      obtain ⟨o', ho', hqq⟩ := hqu
      rw [ho] at ho'
      obtain rfl := Option.some.inj ho'
      cases hc1 : Nat.beq (cls P o.op) 1 with
      | true =>
        rw [hc1] at hfil hdst
        refine .inl ⟨by simpa using hfil, ?_, Quiet.yields ho ⟨o, ho, hqq⟩⟩
        intro hn
        rw [hn] at hdst
        simp at hdst
      | false =>
        rw [hc1] at hfil
        refine .inr ⟨by simpa using hfil, fun w' => ?_⟩
        rcases hqq with ⟨hw, ⟨_, h⟩ | ⟨h1, _⟩⟩ | h
        · exact .inl ⟨hw, h w'⟩
        · rw [h1] at hc1; simp at hc1
        · exact .inr h
  effect done hs a w ha he h := by
    intro hcl
    simp only [drawChk, Bool.and_eq_true, beq_iff_eq] at he
    obtain ⟨⟨hlt, hne⟩, hrd⟩ := he
    rw [Nat.blt_eq] at hlt
    rw [show ops.size - done.length = (ops.size - (done.length + 1)) + 1 by omega]
    refine ⟨fun h0 => ?_, fun j hj => ?_⟩
    · rw [hrd] at h0
      rw [h0] at hne
      simp at hne
    · have hj' := hj
      rw [hrd] at hj'
      obtain ⟨⟨j', st⟩, hm, hje⟩ := List.mem_map.1 hj'
      simp only at hje
      subst hje
      obtain ⟨hst, o, ho, hw, hwp⟩ := h _ hm
      unfold wpOp
      simp only [ho, hw, if_true]
      refine .inl (Oper.wp_mono (fun a' w' h => ⟨?_, ?_⟩) (wp_QN hwp))
      · intro k hk hb ok hok d hd hy
        simp only [drawChk, List.all_eq_true, Bool.or_eq_true] at hst
        rcases hst k hk with h1 | h1
        · rw [hb] at h1; cases h1
        · rcases hy with ⟨hw2, _⟩ | hy
          · exact .inl ⟨hw2, h.2.2.1 k (memb_iff.1 h1) ok hok d hd⟩
          · exact .inr hy
      · have hx := h.2.2.2 (hcl.add hj)
        simp only [List.length_cons] at hx
        refine wpG_less (D' := readsOf P ops (j' :: done)) ?_ _ _ _ _ hx
        intro k hk
        rw [readsOf, List.mem_filter] at hk ⊢
        exact ⟨List.mem_cons_of_mem _ hk.1, hk.2⟩
def dstsR : List Oper → List Nat
  | [] => []
  | o :: r => match o.dst with
    | some d => d :: dstsR r
    | none => dstsR r
theorem dstsR_get {d : Nat} : ∀ {l : List Oper} {i : Nat} {o : Oper}, l[i]? = some o → o.dst = some d → d ∈ dstsR l
  | [], i, o, h, _ => by simp at h
  | x :: r, 0, o, h, hd => by
    simp only [List.getElem?_cons_zero, Option.some.injEq] at h
    subst h
    simp [dstsR, hd]
  | x :: r, i + 1, o, h, hd => by
    have := dstsR_get (l := r) (i := i) (by simpa using h) hd
    simp only [dstsR]
    cases x.dst <;> simp [this]
theorem dstsOf_sub {l : List Oper} {d : Nat} : ∀ {p : Plan}, d ∈ dstsOf l p → d ∈ dstsR l
  | .nil, h => by simp [dstsOf] at h
  | .op i st r, h => by
    simp only [dstsOf] at h
    cases ho : l[i]? with
    | none => rw [ho] at h; exact dstsOf_sub h
    | some o =>
      rw [ho] at h
      simp only at h
      cases hd : o.dst with
      | none => rw [hd] at h; exact dstsOf_sub h
      | some d' =>
        rw [hd] at h
        rcases List.mem_cons.1 h with rfl | h
        · exact dstsR_get ho hd
        · exact dstsOf_sub h
  | .grp c b p r, h => by
    simp only [dstsOf, List.mem_append] at h
    rcases h with h | h
    · exact dstsOf_sub h
    · cases ho : l[p]? with
      | none => rw [ho] at h; exact dstsOf_sub h
      | some o =>
        rw [ho] at h
        simp only at h
        cases hd : o.dst with
        | none => rw [hd] at h; exact dstsOf_sub h
        | some d' =>
          rw [hd] at h
          rcases List.mem_cons.1 h with rfl | h
          · exact dstsR_get ho hd
          · exact dstsOf_sub h
  | .fork a b, h => by
    simp only [dstsOf, List.mem_append] at h
    rcases h with h | h <;> exact dstsOf_sub h
def wrC : Code → List Nat
  | .region _ ops _ => dstsR ops.toList
  | .seq a b => wrC a ++ wrC b
  | .cond _ a b => wrC a ++ wrC b
  | .block _ a => wrC a
  | .loop a => wrC a
  | .scope a => wrC a
  | _ => []
def subL : List Nat → List Nat → Bool
  | [], _ => true
  | x :: r, l => memb x l && subL r l
theorem subL_spec : ∀ {l m : List Nat}, subL l m = true → ∀ t ∈ l, t ∈ m
  | [], _, _, t, ht => by simp at ht
  | x :: r, m, h, t, ht => by
    simp only [subL, Bool.and_eq_true] at h
    rcases List.mem_cons.1 ht with rfl | ht
    · exact memb_iff.1 h.1
    · exact subL_spec h.2 t ht
def chkC (P : Program) (n : Nat) : Code → Ann → Bool
  | .skip, _ | .ret, _ | .exit _, _ | .label _, _ => true
  | .scope x, a => chkC P n x a
  | .region _ ops draw, .reg p => !draw && chkP P ops (textChk ops.size n) p false none [] fun d => Nat.beq d.length ops.size
  | .region _ ops draw, .drw Bs p => draw && Region.noSelect ops && okB ops.toList Bs && chkP P ops (drawChk P ops Bs n) p false none [] fun d => Nat.beq d.length ops.size && (Region.ready .any ops (listedOf ops.size d)).isEmpty
  | .seq x y, .seq a b => chkC P n x a && chkC P n y b
  | .seq x y, .cut _ wr a b => subL (wrC x) wr && chkC P n x a && chkC P n y b
  | .cond _ x y, .cond a b => chkC P n x a && chkC P n y b
  | .block _ x, .block a => chkC P n x a
  | .loop x, .loop _ wr a => subL (wrC x) wr && chkC P n x a
  | _, _ => false
def QX (Q : Ex → Env → Heap → Prop) : Exit → Act → World → Prop
  | .normal, a, w => Q .normal (envOf a) w.heap
  | .exit id, a, w => Q (.exit id) (envOf a) w.heap
  | .ret, a, w => Q .ret (envOf a) w.heap
  | _, _, _ => False
def QC (n : Nat) (l : List Nat) (a0 : Act) (w0 : World) (Q : Ex → Env → Heap → Prop) (e : Exit) (a : Act) (w : World) : Prop := Ok n a ∧ Rest w0 w ∧ Same l a0 a ∧ QX Q e a w
theorem QC.le {n : Nat} {l l' : List Nat} {a0 a1 : Act} {w0 w1 : World} {Q Q' : Ex → Env → Heap → Prop} {e : Exit} {a : Act} {w : World} (h : QC n l' a1 w1 Q' e a w) (hs : Same l a0 a1) (hl : ∀ t ∈ l', t ∈ l) (hr : Rest w0 w1) (hq : QX Q' e a w → QX Q e a w) : QC n l a0 w0 Q e a w :=
  ⟨h.1, hr.trans h.2.1, ((hs.trans (h.2.2.1.mono hl)).mono (by simp)), hq h.2.2.2⟩
theorem alls_self : ∀ {slots : List Nat} {ρ : Env} {K : Env → Prop}, alls slots ρ K → K ρ
  | [], _, _, h => h
  | t :: s, ρ, K, h => by
    have h := h (ρ t)
    have : ρ.upd t (ρ t) = ρ := by
      funext s
      simp only [Env.upd]
      cases hb : Nat.beq s t with
      | true => simp [Nat.eq_of_beq_eq_true hb]
      | false => rfl
    rw [this] at h
    exact alls_self h
variable {C : List Nat}
theorem vc_sound (hC : Callable P C) (hm : P.follows .mixedOrders = true) {n : Nat} : ∀ (c : Code) (an : Ann) (a : Act) (w : World) (Q : Ex → Env → Heap → Prop), chkC P n c an = true → Ok n a → vc P C c an (envOf a) w.heap Q →
    c.wp P (QC n (wrC c) a w Q) a w := by
  intro c
  induction c with
  | skip =>
    intro an a w Q hk ha hv
    simp only [vc] at hv
    exact wp_skip ⟨ha, Rest.refl w, Same.refl _ _, hv⟩
  | ret =>
    intro an a w Q hk ha hv
    simp only [vc] at hv
    exact wp_ret ⟨ha, Rest.refl w, Same.refl _ _, hv⟩
  | exit id =>
    intro an a w Q hk ha hv
    simp only [vc] at hv
    exact wp_exit ⟨ha, Rest.refl w, Same.refl _ _, hv⟩
  | label l =>
    intro an a w Q hk ha hv
    simp only [vc] at hv
    exact wp_label ⟨ha, Rest.refl w, Same.refl _ _, hv⟩
  | scope x ih =>
    intro an a w Q hk ha hv
    simp only [chkC] at hk
    simp only [vc] at hv
    refine wp_scope_straight (wp_mono (ih an a w Q hk ha hv) fun e a' w' he => ?_)
    cases e with
    | goto l => exact he.2.2.2.elim
    | _ => exact he
  | region id ops draw =>
    intro an a w Q hk ha hv
    cases an with
    | reg p =>
      simp only [chkC, Bool.and_eq_true, Bool.not_eq_true'] at hk
      obtain ⟨hd, hk⟩ := hk
      subst hd
      simp only [vc] at hv
      let N : Act → World → Prop := fun a' w' => QC n (wrC (.region id ops false)) a w Q .normal a' w'
      have h := (plan_all hC (R := textRun P ops N n) p).1 none [] _ _ a w hk ha trivial hv (fun done' a' w' h1 h2 h3 h4 _ h6 => by
        have hl : done'.length = ops.size := Nat.eq_of_beq_eq_true h1
        show wpOps P ops (QN N) ((List.range ops.size).drop done'.length) a' w'
        rw [hl, List.drop_eq_nil_of_le (by simp)]
        exact ⟨h2, h4, h3.mono (fun t ht => dstsOf_sub ht), h6⟩)
      refine wp_mono (Q := QN N) (wp_region (by simpa [textRun] using h)) fun e a' w' he => ?_
      cases e <;> first | exact he | exact he.elim
    | drw Bs p =>
      simp only [chkC, Bool.and_eq_true] at hk
      obtain ⟨⟨⟨hd, hS⟩, hB⟩, hk⟩ := hk
      subst hd
      simp only [vc] at hv
      let N : Act → World → Prop := fun a' w' => QC n (wrC (.region id ops true)) a w Q .normal a' w'
      have hcl0 : Closed ops (listedOf ops.size []) := by
        intro k o ho hk
        have : (Array.replicate ops.size false)[k]?.getD false = false := by
          by_cases h : k < ops.size <;> simp [h]
        simp only [listedOf, List.foldr_nil, Array.getD_eq_getD_getElem?] at hk
        rw [this] at hk
        cases hk
      have h := (plan_all hC (R := drawRun P ops N Bs n hB hS) p).1 none [] _ _ a { w with drawn := w.drawn + 1 } hk ha trivial hv (fun done' a' w' h1 h2 h3 h4 _ h6 => by
        intro _
        simp only [Bool.and_eq_true] at h1
        have hl : done'.length = ops.size := Nat.eq_of_beq_eq_true h1.1
        rw [hl, Nat.sub_self]
        exact ⟨by simpa using h1.2, h2, Rest.trans (show Rest w { w with drawn := w.drawn + 1 } from ⟨rfl, rfl, rfl, by first | exact Nat.le_refl _ | exact Nat.le_succ _⟩) h4, h3.mono (fun t ht => dstsOf_sub ht), h6⟩)
      have h := h hcl0
      refine wp_mono (Q := QN N) (wp_region_any hm (wpAny_of_G _ _ _ _ h)) fun e a' w' he => ?_
      cases e <;> first | exact he | exact he.elim
    | _ => simp [chkC] at hk
  | seq x y ihx ihy =>
    intro an a w Q hk ha hv
    cases an with
    | seq p q =>
      simp only [chkC, Bool.and_eq_true] at hk
      simp only [vc] at hv
      refine wp_seq (wp_mono (ihx p a w _ hk.1 ha hv) fun e a' w' he => ?_)
      cases e with
      | normal =>
        obtain ⟨h1, h2, h3, h4⟩ := he
        refine wp_mono (ihy q a' w' Q hk.2 h1 h4) fun e2 a2 w2 he2 => he2.le (h3.mono (by intro t ht; simp [wrC, ht])) (by intro t ht; simp [wrC, ht]) h2 (fun h => h)
      | exit id => exact QC.le he (Same.refl _ _) (by intro t ht; simp [wrC, ht]) (Rest.refl w) (fun h => h)
      | ret => exact QC.le he (Same.refl _ _) (by intro t ht; simp [wrC, ht]) (Rest.refl w) (fun h => h)
      | goto l => exact he.2.2.2.elim
      | panic ch => exact he.2.2.2.elim
      | outgrown => exact he.2.2.2.elim
    | cut slots wr p q =>
      simp only [chkC, Bool.and_eq_true] at hk
      simp only [vc] at hv
      obtain ⟨J, hJ, hv⟩ := hv
      refine wp_seq (wp_mono (ihx p a w _ hk.1.2 ha hv) fun e a' w' he => ?_)
      cases e with
      | normal =>
        obtain ⟨h1, h2, h3, h4⟩ := he
        have h5 := hJ (envOf a')
        rw [mix_same (h3.mono (subL_spec hk.1.1))] at h5
        refine wp_mono (ihy q a' w' Q hk.2 h1 (alls_self h5 w'.heap h4)) fun e2 a2 w2 he2 => he2.le (h3.mono (by intro t ht; simp [wrC, ht])) (by intro t ht; simp [wrC, ht]) h2 (fun h => h)
      | exit id => exact QC.le he (Same.refl _ _) (by intro t ht; simp [wrC, ht]) (Rest.refl w) (fun h => h)
      | ret => exact QC.le he (Same.refl _ _) (by intro t ht; simp [wrC, ht]) (Rest.refl w) (fun h => h)
      | goto l => exact he.2.2.2.elim
      | panic ch => exact he.2.2.2.elim
      | outgrown => exact he.2.2.2.elim
    | _ => simp [chkC] at hk
  | cond c x y ihx ihy =>
    intro an a w Q hk ha hv
    cases an with
    | cond p q =>
      simp only [chkC, Bool.and_eq_true] at hk
      simp only [vc] at hv
      rw [← eval_ev] at hv
      cases hc : a.eval c <;> rw [hc] at hv <;> simp only [pCond] at hv
      refine wp_cond_split hc (fun ht => ?_) (fun hf => ?_)
      · exact wp_mono (ihx p a w Q hk.1 ha (hv.1 ht)) fun e a' w' he => he.le (Same.refl _ _) (by intro t ht; simp [wrC, ht]) (Rest.refl w) (fun h => h)
      · exact wp_mono (ihy q a w Q hk.2 ha (hv.2 hf)) fun e a' w' he => he.le (Same.refl _ _) (by intro t ht; simp [wrC, ht]) (Rest.refl w) (fun h => h)
    | _ => simp [chkC] at hk
  | block id x ih =>
    intro an a w Q hk ha hv
    cases an with
    | block p =>
      simp only [chkC] at hk
      simp only [vc] at hv
      refine wp_block (wp_mono (ih p a w _ hk ha hv) fun e a' w' he => ?_)
      cases e with
      | exit k =>
        simp only [Exit.inBlock]
        obtain ⟨h1, h2, h3, h4⟩ := he
        simp only [QX] at h4
        by_cases hki : k = id
        · subst hki
          rw [if_pos rfl]
          simp only [Nat.beq_eq_true_eq, Nat.beq_refl, cond_true] at h4
          exact ⟨h1, h2, h3, h4⟩
        · rw [if_neg hki]
          have : Nat.beq k id = false := by cases hb : Nat.beq k id with | false => rfl | true => exact absurd (Nat.eq_of_beq_eq_true hb) hki
          rw [this] at h4
          exact ⟨h1, h2, h3, h4⟩
      | normal => exact he
      | ret => exact he
      | goto l => exact he
      | panic ch => exact he
      | outgrown => exact he
    | _ => simp [chkC] at hk
  | loop x ih =>
    intro an a w Q hk ha hv
    cases an with
    | loop slots wr p =>
      simp only [chkC, Bool.and_eq_true] at hk
      simp only [vc] at hv
      obtain ⟨I, μ, h0, hround⟩ := hv
      refine wp_loop (fun a' w' => Ok n a' ∧ Rest w w' ∧ Same (wrC x) a a' ∧ appl slots I (envOf a') w'.heap) (fun a' w' => applN slots μ (envOf a') w'.heap) ⟨ha, Rest.refl w, Same.refl _ _, h0⟩ ?_
      intro a1 w1 ⟨g1, g2, g3, g4⟩
      have h5 := hround (envOf a1)
      rw [mix_same (g3.mono (subL_spec hk.1))] at h5
      refine wp_mono (ih p a1 w1 _ hk.2 g1 (alls_self h5 w1.heap g4)) fun e a' w' he => ?_
      cases e with
      | normal =>
        obtain ⟨h1, h2, h3, h4⟩ := he
        exact ⟨⟨h1, g2.trans h2, (g3.trans h3).mono (by simp), h4.1⟩, h4.2⟩
      | exit id => exact QC.le he g3 (by simp [wrC]) g2 (fun h => h)
      | ret => exact QC.le he g3 (by simp [wrC]) g2 (fun h => h)
      | goto l => exact he.2.2.2.elim
      | panic ch => exact he.2.2.2.elim
      | outgrown => exact he.2.2.2.elim
    | _ => simp [chkC] at hk
  | _ => intro an a w Q hk; simp [chkC] at hk
def resOne (tmps : Array Value) : ResultVar → Sem Value
  | .tmp t => pure (tmps.getD t undef)
  | .cell b t => do loadVar t (← asAddr (tmps.getD b undef))
theorem results_eq (fn : Func) (tmps : Array Value) : results fn tmps = (do let vs ← fn.results.mapM (resOne tmps); pure (if h : vs.size = 1 then vs[0] else .tuple vs)) := rfl
theorem results_sound {a : Act} {w : World} : ∀ {rs : List ResultVar} {K : List Value → Prop}, resH P (envOf a) w.heap K rs →
    ∃ l, (rs.mapM (resOne a.tmps)).run P w = Result.ok l w ∧ K l
  | [], K, h => ⟨[], rfl, h⟩
  | .tmp t :: r, K, h => by
    simp only [resH] at h
    obtain ⟨l, hl, hk⟩ := results_sound h
    refine ⟨envOf a t :: l, ?_, hk⟩
    simp only [List.mapM_cons, resOne, Sem.run_bind, Sem.run_pure, Result.andThen_ok, hl]
    rfl
  | .cell b t :: r, K, h => by
    simp only [resH] at h
    split at h
    · rename_i d i hd hi
      have key : ∀ {K' : Value → Prop}, RRun P (Instr.loadAt t (envOf a b)) w.heap K' → ∃ v, (resOne a.tmps (.cell b t)).run P w = .ok v w ∧ K' v := by
        intro K' ⟨v, hv, hk⟩
        refine ⟨v, ?_, hk⟩
        have hv := hv w rfl
        have he : a.tmps.getD b undef = envOf a b := rfl
        simp only [resOne]
        rw [he]
        cases hb : envOf a b <;> rw [hb] at hv <;> (try simp only [Instr.loadAt, Instr.sureAddr, Sem.run_bind, run_stuck, Result.andThen_halt, reduceCtorEq] at hv)
        rename_i p
        cases p with
        | none => simp [Instr.loadAt, Instr.sureAddr] at hv
        | some p => simpa [asAddr, Instr.loadAt, Instr.sureAddr] using hv
      cases ha : isAggT P t with
      | true =>
        rw [ha] at h
        simp only [cond_true] at h
        obtain ⟨v, hv, hk⟩ := key (pLoadN_run hd hi ha h)
        obtain ⟨l, hl, hk⟩ := results_sound hk
        refine ⟨v :: l, ?_, hk⟩
        simp only [List.mapM_cons, Sem.run_bind, hv, Result.andThen_ok, hl, Sem.run_pure]
      | false =>
        rw [ha] at h
        simp only [cond_false] at h
        obtain ⟨v, hv, hk⟩ := key (pLoad_run hd ha h)
        obtain ⟨l, hl, hk⟩ := results_sound hk
        refine ⟨v :: l, ?_, hk⟩
        simp only [List.mapM_cons, Sem.run_bind, hv, Result.andThen_ok, hl, Sem.run_pure]
    · exact h.elim
def chkFn (P : Program) (fn : Func) (an : Ann) (nargs : Nat) : Bool := Nat.ble nargs fn.ntmps && match fn.body with
  | some c => chkC P fn.ntmps c an
  | none => false
theorem vcFn_sound {P : Program} {C : List Nat} (hC : Callable P C) (hm : P.follows .mixedOrders = true) {f : FuncId} {fn : Func} {an : Ann} {args : List Value} {H : Heap} {R : Value → Heap → Prop}
    (hf : P.funcs[f]? = some fn) (hk : chkFn P fn an args.length = true) (h : vcFn P C fn an args H R) : CallsH P f args.toArray H R := by
  intro w hw
  subst hw
  unfold chkFn at hk
  unfold vcFn at h
  simp only [Bool.and_eq_true] at hk
  obtain ⟨hle, hk⟩ := hk
  have hle := Nat.le_of_ble_eq_true hle
  cases hb : fn.body with
  | none => rw [hb] at h; exact h.elim
  | some c =>
    rw [hb] at h hk
    simp only at h hk
    refine calls_of_wp hf hb ?_
    generalize ha : ({ tmps := args.toArray ++ Array.replicate (fn.ntmps - args.toArray.size) undef, defers := [] } : Act) = a
    have hok : Ok fn.ntmps a := by subst ha; exact ⟨by simp; omega, rfl⟩
    have hen : envOf a = initEnv args := by
      subst ha
      funext t
      simp only [envOf, initEnv, Array.getD_eq_getD_getElem?]
      by_cases ht : t < args.length
      · rw [Array.getElem?_append_left (by simpa using ht)]
        simp [ht]
      · rw [Array.getElem?_append_right (by simp; omega)]
        simp only [List.size_toArray, Array.getElem?_replicate]
        rw [List.getElem?_eq_none (by omega)]
        split <;> rfl
    rw [← hen] at h
    refine wp_mono (vc_sound hC hm c an a w _ hk hok h) fun e a' w' he => ?_
    obtain ⟨h1, h2, h3, h4⟩ := he
    have fin : resH P (envOf a') w'.heap (fun l => R (oneOr l) w'.heap) fn.results.toList → a'.defers = [] ∧ ∃ v, (results fn a'.tmps).run P w' = .ok v w' ∧ ∃ v', Ending.returned v = Ending.returned v' ∧ Rest w w' ∧ R v' w'.heap := by
      intro hr
      obtain ⟨l, hl, hk⟩ := results_sound hr
      refine ⟨h1.defers, oneOr l, ?_, oneOr l, rfl, h2, hk⟩
      rw [results_eq, Array.mapM_eq_mapM_toList]
      simp only [Sem.run_bind, Sem.run_map, hl, Result.andThen_ok, Sem.run_pure]
      cases l with
      | nil => rfl
      | cons x r => cases r <;> simp [oneOr]
    cases e with
    | normal => exact fin h4
    | ret => exact fin h4
    | exit id => exact h4.elim
    | goto l => exact h4.elim
    | panic ch => exact h4.elim
    | outgrown => exact h4.elim
end
end Go.Vc
