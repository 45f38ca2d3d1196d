/- The library's functions strings.Repeat, strings.Join and maps.Clone over heaps, from the shelf's contracts. -/
import Derived.Test.YthadmceioakgnaaShelf
import Derived.Test.YthadmceioakgnaaVcRow
import Derived.Test.YthadmceioakgnaaVcOwns
import Derived.Test.YthadmceioakgnaaStrs
namespace Go.Proofs.Ythadmceioakgnaa
-- only what is known
open Go Go.Vc Go.Proofs Go.RowKit
set_option linter.unusedVariables false
set_option linter.unusedSimpArgs false
variable {H : Heap} {R : Value → Heap → Prop} {v : Value}
/-- a contract that leaves alone what was there -/
theorem callsH_below {P : Program} {f : FuncId} {args : Array Value} {r : Value} (h : ∀ w : World, w.heap = H → Calls P f args w fun e w' => e = .returned r ∧ Below w.heap.size w w') (hk : ∀ H', Ext H H' → R r H') : CallsH P f args H R :=
  fun w hw => (h w hw).mono fun e w' ⟨he, hb⟩ => ⟨r, he, ⟨hb.os, hb.output⟩, hk _ ⟨by rw [← hw]; exact hb.size, fun k hk => by rw [← hw] at hk ⊢; exact hb.block k hk⟩⟩
theorem callsH_same {P : Program} {f : FuncId} {args : Array Value} {r : Value} (h : ∀ w : World, w.heap = H → Calls P f args w fun e w' => e = .returned r ∧ w' = w) (hk : R r H) : CallsH P f args H R :=
  fun w hw => (h w hw).mono fun e w' ⟨he, hb⟩ => ⟨r, he, by rw [hb]; exact Rest.refl w, by rw [hb, hw]; exact hk⟩
theorem repeat_spec {s : List UInt8} {c : Nat} (hc : c ≤ 9223372036854775807) (hlen : s.length * c ≤ 140737488355328) (hk : ∀ H', Ext H H' → R (str (Lib.repeatL s c)) H') : CallsH Try.prog 26 #[str s, .int .i64 (c : Int)] H R :=
  callsH_below (fun w hw => Try.strings_Repeat ⟨s.toArray⟩ c w hc (by show s.toArray.size * c ≤ _; rw [List.size_toArray]; exact hlen)) hk
theorem repeat_one (b : UInt8) : ∀ c, Lib.repeatL [b] c = List.replicate c b
  | 0 => rfl
  | c + 1 => by rw [Lib.repeatL, repeat_one b c]; rfl
theorem join_flat (L : List (List UInt8)) : Lib.join L [] = L.flatten := by
  unfold Lib.join
  induction L with
  | nil => rfl
  | cons x L ih =>
    cases L with
    | nil => simp [List.intercalate]
    | cons y L =>
      rw [List.intercalate] at ih ⊢
      simp only [List.intersperse, List.flatten_cons, List.nil_append] at ih ⊢
      rw [ih]
theorem join_spec {L : List (List UInt8)} (hs : Sl H v 1 (txtsV L)) (hN : L.length ≤ 140737488355328) (hlen : L.flatten.length ≤ 140737488355328) (hk : ∀ H', Ext H H' → R (str L.flatten) H') : CallsH Try.prog 37 #[v, str []] H R := by
  have hx : (L.map fun s : List UInt8 => (⟨s.toArray⟩ : ByteArray)).map (fun x => x.data.toList) = L := by
    rw [List.map_map]
    exact (List.map_congr_left (fun s _ => rfl)).trans (List.map_id _)
  by_cases h0 : L = []
  · subst h0
    rcases hs with ⟨rfl, _⟩ | ⟨a, m, cap, rfl, hm, hcap, hc⟩
    · exact callsH_same (fun w hw => Try.strings_Join_none none 0 ⟨#[]⟩ w) (hk H (Ext.refl H))
    · have hm0 : m = 0 := by simp [txtsV] at hm; omega
      subst hm0
      exact callsH_same (fun w hw => Try.strings_Join_none (some a) cap ⟨#[]⟩ w) (hk H (Ext.refl H))
  rcases hs with ⟨rfl, h1⟩ | ⟨a, m, cap, rfl, hm, hcap, hc⟩
  · exact absurd (List.map_eq_nil_iff.1 h1) h0
  rw [txtsV_len, Nat.mul_one] at hm
  subst hm
  have hl : 0 < L.length := List.length_pos_iff.2 h0
  have hcell : ∀ (i : Nat) (h : i < L.length), cellAt H (a.add i) = some (str L[i]) := fun i h => hc i _ (txtsV_get h)
  obtain ⟨bk, o, sp⟩ := a
  have hsp : sp = none := by
    have := hcell 0 hl
    cases sp with
    | none => rfl
    | some x =>
      exfalso
      unfold cellAt Addr.add at this
      revert this
      simp only
      split <;> simp
  subst hsp
  refine callsH_below (r := str L.flatten) (fun w hw => ?_) hk
  have hbk : bk < w.heap.size := by
    have := hcell 0 hl
    rw [hw]
    unfold cellAt at this
    rcases Nat.lt_or_ge bk H.size with g | g
    · exact g
    · rw [show (Addr.add ⟨bk, o, none⟩ 0).block = bk from rfl, Array.getElem?_eq_none g] at this
      cases this
  have hcon := Try.strings_Join bk o cap (L.map fun s : List UInt8 => (⟨s.toArray⟩ : ByteArray)) ⟨#[]⟩ w (fun j x hj => by
    rw [List.getElem?_map] at hj
    cases hLj : L[j]? with
    | none => rw [hLj] at hj; cases hj
    | some t =>
      rw [hLj] at hj
      obtain ⟨g1, g2⟩ := List.getElem?_eq_some_iff.1 hLj
      have := hcell j g1
      rw [← hw, add_mk] at this
      have e : x = ⟨t.toArray⟩ := by simpa using hj.symm
      rw [e, ← g2]
      exact this) hbk (by rw [List.length_map]; exact hN) (by rw [List.length_map]; exact hcap) (by rw [hx]; show (Lib.join L []).length ≤ _; rw [join_flat]; exact hlen)
  rw [List.length_map, hx, show ((⟨#[]⟩ : ByteArray).data.toList) = [] from rfl, join_flat] at hcon
  exact hcon
theorem mapsClone_spec {α : Type} {kind : Nat} {κ : Keys α kind} {r : Nat} {m : α → Option Value} (hm : MapAt κ H r m) (hk : ∀ H', MapAt κ H' H.size m → Ext H H' → H'.size = H.size + 1 → R (.map (some H.size)) H') : CallsH Try.prog 33 #[.map (some r)] H R := by
  obtain ⟨es, clock, ks, h1, h2⟩ := hm
  intro w hw
  subst hw
  refine (Try.maps_Clone r es clock w h1).mono fun e w' ⟨he, hw'⟩ => ⟨_, he, by rw [hw']; exact ⟨rfl, rfl⟩, ?_⟩
  subst hw'
  have he : (w.alloc (.map es clock)).heap = w.heap.push (.map es clock) := rfl
  rw [he]
  exact hk _ ⟨es, clock, ks, by rw [Array.getElem?_push, if_pos rfl], h2⟩ ⟨by rw [Array.size_push]; omega, fun i hi => by rw [Array.getElem?_push, if_neg (by omega)]⟩ (by rw [Array.size_push])
end Go.Proofs.Ythadmceioakgnaa
