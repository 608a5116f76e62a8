/- Opening a slice of strings whose sizes are bounded by what the row's world holds. -/
import Derived.Test.YtdjnnkfopgmpaaaDoorHRowKit
namespace Go.Proofs.YtdjnnkfopgmpaaaDoor.H
open Go Go.ChangeShapes Go.WideShapes Go.ChangeAt Go.RowKit Go.Proofs.YtdjnnkfopgmpaaaDoorW.PrintWords
section
variable {Hh : Type} {enc : TypeId × Value → Hh} {P : Program} {W : World} {base : Nat} {spare : Nat → Bool} {held : Bool}
theorem strs_weights {e : TypeId} : ∀ (l : List ByteArray) (s : ByteArray), s ∈ l → s.size ∈ DataW.weightsAll P e (strs (H := Hh) l)
  | [], s, h => by cases h
  | x :: l, s, h => by
    simp only [strs, List.map_cons, DataW.weightsAll, List.mem_append]
    rcases List.mem_cons.1 h with h | h
    · left
      rw [h]
      simp [DataW.weights]
    · exact .inr (strs_weights l s h)
theorem opened_strs2 {t e : TypeId} {a : Option Addr} {len cap : Nat} {d : DataW Hh} {ps : List MemPlace} (hu : P.underlying t = some (.slice e)) (he : P.underlying e = some .string) (hc : P.cellsOf e = 1)
    (h : DataW.Trod enc P W base spare held t (.slice a len cap) d ps) :
    ∃ l : List ByteArray, len = l.length ∧ l.length ≤ cap ∧ Kd.C Kd.string W a l.length l ∧ (∀ s ∈ l, s.size ∈ d.weights P t) := by
  obtain ⟨fuel, hf⟩ := h
  rcases open_strings hu he hc hf with ⟨hcs, hx⟩ | ⟨x, l, c, ss, hcs, _, hl, hm, hz, hx, hcell, hwz⟩
  · simp [Value.cells] at hcs
    obtain ⟨rfl, rfl, rfl⟩ := hcs
    exact ⟨[], rfl, Nat.zero_le _, kc_none _, by simp⟩
  · simp [Value.cells] at hcs
    obtain ⟨rfl, rfl, rfl⟩ := hcs
    have hlz : len ≤ ss.length := by
      rw [hz]
      split
      · exact hl
      · exact Nat.le_refl _
    obtain ⟨hd, _⟩ := Prod.mk.inj hx
    refine ⟨ss.take len, by rw [List.length_take]; omega, by rw [List.length_take]; omega, kc_strs hlz (Nat.le_trans hl hm) hcell, fun s hs => ?_⟩
    rw [hd]
    simp only [DataW.weights, hu]
    exact List.mem_cons_of_mem _ (List.mem_append.2 (.inl (strs_weights _ s hs)))
theorem sized_of {Hh : Type} {ts : List TypeId} {ds : List (DataW Hh)} (h : (DataW.weightsEach P ts ds).all (· ≤ reachBytes) = true) {j : Nat} {t : TypeId} {d : DataW Hh} (ht : ts[j]? = some t) (hd : ds[j]? = some d) {n : Nat} (hn : n ∈ d.weights P t) : n ≤ 140737488351232 := by
  have := List.all_eq_true.1 h _ (DataW.weights_mem_each ht hd n hn)
  have h2 := of_decide_eq_true this
  exact h2
end
end Go.Proofs.YtdjnnkfopgmpaaaDoor.H
