/- word.Text and word.Row. -/
import Derived.Test.YtdjnnkfopgmpaaaDoorHBuild
import Derived.Test.YtdjnnkfopgmpaaaDoorHSplit
import Derived.Test.YtdjnnkfopgmpaaaDoorWWords
import Derived.Lib.Builder
import Derived.Lib.AppendIntMem
namespace Go.Proofs.YtdjnnkfopgmpaaaDoor.H
open Go Go.RowKit Go.Proofs.YtdjnnkfopgmpaaaDoorW.PrintWords

def inRange (n : Int) : Prop := -9223372036854775808 ≤ n ∧ n ≤ 9223372036854775807
instance (n : Int) : Decidable (inRange n) := by unfold inRange; infer_instance

def word_Text.f (a0 : Int) : Option ByteArray := if inRange a0 then some (mkB (Lib.itoa a0)) else none

theorem word_Text.calls (a0 : Int) (r : ByteArray) (w : World) (hT : TabW w) (h : word_Text.f a0 = some r) :
    Calls Tryd.prog 18 #[.int .i64 a0] w fun e w' => e = .returned (.string r) ∧ Below w.heap.size w w' := by
  unfold word_Text.f at h
  split at h
  case isFalse => cases h
  rename_i hr
  obtain rfl := Option.some.inj h
  clear h
  have hi : Calls Tryd.prog 29 #[.int .i64 a0] w fun e w' => e = .returned (.string (mkB (Lib.itoa a0))) ∧ Below w.heap.size w w' := by
    refine (Tryd.strconv_Itoa a0 hr.1 hr.2 w hT.tab).mono ?_
    rintro e w' ⟨rfl, k, os, rfl⟩
    exact ⟨rfl, Lib.below_grow _ _ (Nat.le_refl _) k os⟩
  replace hi := Lib.hid hi
  clear hT
  go_enter Tryd.func18, Tryd.ntmps18
  go_wp2_with (go_at_call 29; refine hi.out.mono ?_; rintro e w' ⟨rfl, hB⟩)
  go_ret
  exact ⟨rfl, hB⟩

theorem decDigits_le : ∀ (k u : Nat), u < 10 ^ (k + 1) → (Lib.decDigits u).length ≤ k + 1
  | 0, u, h => by rw [Lib.decDigits, dif_pos (by omega)]; simp
  | k + 1, u, h => by
    rw [Lib.decDigits]
    split
    · simp
    · rw [List.length_append, List.length_singleton]
      have := decDigits_le k (u / 10) (by rw [Nat.pow_succ] at h; omega)
      omega
theorem itoa_le (n : Int) (h : inRange n) : (Lib.itoa n).length ≤ 20 := by
  obtain ⟨h1, h2⟩ := h
  unfold Lib.itoa
  split
  · have := decDigits_le 18 n.natAbs (by omega)
    rw [List.length_cons]
    omega
  · have := decDigits_le 18 n.toNat (by omega)
    omega

/-- A row's bytes ahead of the line's end. -/
def rowHead (w : List UInt8) (l : List Int) : List UInt8 := w ++ l.flatMap fun n => 32 :: Lib.itoa n
def rowB (w : ByteArray) (l : List Int) : ByteArray := mkB (rowHead w.data.toList l ++ [10])
def word_Row.f (a0 : ByteArray) (l1 : List Int) : Option ByteArray := if a0.size + 21 * l1.length + 1 ≤ 140737488355328 ∧ ∀ n ∈ l1, inRange n then some (rowB a0 l1) else none

theorem rowHead_take (w : List UInt8) (l : List Int) (i : Nat) (hi : i < l.length) : rowHead w (l.take (i + 1)) = rowHead w (l.take i) ++ 32 :: Lib.itoa l[i] := by
  unfold rowHead
  rw [List.take_succ_eq_append_getElem hi, List.flatMap_append, List.append_assoc]
  simp
theorem rowHead_le (w : List UInt8) (l : List Int) (h : ∀ n ∈ l, inRange n) : (rowHead w l).length ≤ w.length + 21 * l.length := by
  unfold rowHead
  induction l with
  | nil => simp
  | cons n l ih =>
    have h1 := itoa_le n (h n (by simp))
    have h2 := ih (fun m hm => h m (by simp [hm]))
    simp only [List.flatMap_cons, List.length_append, List.length_cons] at *
    omega

theorem isBuilder_below {T e : TypeId} {B b : Nat} {bs : List Value} {w w' : World} (h : Lib.IsBuilder T e B b bs w) (hb : Below w.heap.size w w') : Lib.IsBuilder T e B b bs w' := by
  have key : ∀ p, Lib.BuilderAt T e B b p bs w → Lib.BuilderAt T e B b p bs w' := by
    rintro p ⟨h1, v, h2, h3, h4⟩
    exact ⟨h1, v, (hb.block _ (Array.getElem?_eq_some_iff.1 h2).1).trans h2, pw_own_below h3 hb, h4⟩
  exact h.elim (fun x => .inl (key _ x)) (fun x => .inr (key _ x))

/-- The builder at block H holds these bytes. -/
def Wr (H : Nat) (l : List UInt8) (W : World) : Prop := Lib.IsBuilder 50 5 H H (Lib.byteCells l) W
theorem wr_str (H : Nat) (l : List UInt8) (s : ByteArray) (W : World) (h : Wr H l W) (hl : l.length + s.size ≤ 140737488355328) (hH : H ≤ W.heap.size) :
    Calls Tryd.prog 31 #[.pointer (some ⟨H, 0, none⟩), .string s] W fun e w' => e = .returned (.tuple #[.int .i64 s.size, .nilIface]) ∧ Wr H (l ++ s.data.toList) w' ∧ Below H W w' := by
  refine (write_string H H _ s W h (by rw [Lib.byteCells_length]; exact hl) hH).mono ?_
  rintro e w' ⟨he, hb, hB⟩
  refine ⟨he, ?_, hB⟩
  rw [Lib.strCells_eq, ← Lib.byteCells_append] at hb
  exact Or.inr hb
theorem wr_byte (H : Nat) (l : List UInt8) (c : UInt8) (W : World) (h : Wr H l W) (hl : l.length + 1 ≤ 140737488355328) (hH : H ≤ W.heap.size) :
    Calls Tryd.prog 32 #[.pointer (some ⟨H, 0, none⟩), .int .u8 c.toNat] W fun e w' => e = .returned .nilIface ∧ Wr H (l ++ [c]) w' ∧ Below H W w' := by
  refine (write_byte H H _ _ W h (by rw [Lib.byteCells_length]; exact hl) hH).mono ?_
  rintro e w' ⟨he, hb, hB⟩
  refine ⟨he, ?_, hB⟩
  unfold Wr
  rw [Lib.byteCells_append]
  exact Or.inr hb
theorem wr_end (H : Nat) (l : List UInt8) (W : World) (h : Wr H l W) (hH : H ≤ W.heap.size) :
    Calls Tryd.prog 33 #[.pointer (some ⟨H, 0, none⟩)] W fun e w' => e = .returned (.string (mkB l)) ∧ Below H W w' := Tryd.Builder_String_any H H l W h hH
theorem wr_below {H : Nat} {l : List UInt8} {W W' : World} (h : Wr H l W) (hb : Below W.heap.size W W') : Wr H l W' := isBuilder_below h hb
theorem text_ok (n : Int) (hn : inRange n) (W : World) (hT : TabW W) :
    Calls Tryd.prog 18 #[.int .i64 n] W fun e w' => e = .returned (.string (mkB (Lib.itoa n))) ∧ Below W.heap.size W w' :=
  word_Text.calls n _ W hT (by unfold word_Text.f; rw [if_pos hn])

set_option maxHeartbeats 1000000 in
set_option maxRecDepth 100000 in
theorem word_Row.calls (a0 : ByteArray) (A1 : Option Addr) (c1 : Nat) (l1 : List Int) (r : ByteArray) (w : World) (hT : TabW w) (hr1 : Kd.C (Kd.int .i64) w A1 l1.length l1) (_hc1 : l1.length ≤ c1) (h : word_Row.f a0 l1 = some r) :
    Calls Tryd.prog 20 #[.string a0, .slice A1 l1.length c1] w fun e w' => e = .returned (.string r) ∧ Below w.heap.size w w' := by
  unfold word_Row.f at h
  split at h
  case isFalse => cases h
  rename_i hcond
  obtain ⟨hsize, hrange⟩ := hcond
  obtain rfl := Option.some.inj h
  clear h
  have HR := Aside0.mk hr1
  clear hr1
  obtain ⟨H, hH⟩ : ∃ H, w.heap.size = H := ⟨_, rfl⟩
  have hW : Wr H [] (w.alloc (.cells #[.pointer none, .slice none 0 0] 50)) := by rw [← hH]; exact Lib.fresh_isBuilder _ _ w
  have hB0 : Below H w (w.alloc (.cells #[.pointer none, .slice none 0 0] 50)) := by rw [← hH]; exact (Below.refl _ w).alloc (Nat.le_refl _) _
  have hq1 : Calls Tryd.prog 31 #[.pointer (some ⟨w.heap.size, 0, none⟩), .string a0] (w.alloc (.cells #[.pointer none, .slice none 0 0] 50)) fun e w' => e = .returned (.tuple #[.int .i64 a0.size, .nilIface]) ∧ Wr H a0.data.toList w' ∧ Below H w w' := by
    rw [hH]
    refine (wr_str H [] a0 _ hW (by simp; omega) (by simp; omega)).mono ?_
    rintro e w' ⟨he, h1, h2⟩
    exact ⟨he, h1, hB0.trans h2⟩
  have HQ := Lib.hid hq1
  have HH := Lib.hid hH
  have HRng := Lib.hid hrange
  have hlen63 : l1.length ≤ 6701785159777 := by omega
  clear hq1 hW hB0 hH hrange
  go_enter Tryd.func20, Tryd.ntmps20
  go_wp2_with (go_at_call 31; refine HQ.out.mono ?_; rintro e w1 ⟨rfl, hI1, hB1⟩)
  rw [HH.out]
  go_loopw [12] (fun v wr => ∃ i : Nat, v = .int .i64 i ∧ i ≤ l1.length ∧ Wr H (rowHead a0.data.toList (l1.take i)) wr ∧ Below H w wr) (fun v _ => l1.length - (intOf v).toNat)
  case atStart => exact ⟨0, rfl, by omega, by simpa [rowHead] using hI1, hB1⟩
  case round =>
    obtain ⟨i, rfl, hi, hI, hB⟩ := hrel
    have hBz : H ≤ wr.heap.size := by have := hB.size; have := HH.out; omega
    have hsz := rowHead_le a0.data.toList (l1.take i) (fun n hn => HRng.out n (List.mem_of_mem_take hn))
    have hl1 : (l1.take i).length ≤ i := List.length_take_le _ _
    have ha0 : a0.data.toList.length = a0.size := by simp
    have hbd : (rowHead a0.data.toList (l1.take i)).length + 21 ≤ 140737488355328 ∨ i = l1.length := by omega
    clear ha0
    by_cases hlt : i < l1.length
    · have hbd' : (rowHead a0.data.toList (l1.take i)).length + 21 ≤ 140737488355328 := by omega
      obtain ⟨ad, e1, hx⟩ := Kd.at_int HR.out (i : Int) (by omega) (by omega)
      cases e1
      have hrd : rd l1 (i : Int) = l1[i] := by simp [rd, hlt]
      have hin : inRange (l1[i]) := HRng.out _ (List.getElem_mem hlt)
      rw [hrd] at hx
      simp only [Int.toNat_natCast] at hx
      have hx1 := (hB.cell (by rw [← HH.out]; exact World.block_lt_of_cell? w _ hx)).trans hx
      have hit := itoa_le _ hin
      have hq1 := wr_byte H _ 32 wr hI (by omega) hBz
      have hnext := rowHead_take a0.data.toList l1 i hlt
      have HQ1 := Lib.hid hq1
      have HN := Lib.hid hnext
      clear hq1 hrd hnext hx
      generalize l1[i] = n at *
      go_wp2_with (first
        | (go_at_call 32; refine HQ1.out.mono ?_; rintro e w2 ⟨rfl, hI2, hB2⟩)
        | (go_at_call 18; refine (text_ok n hin _ (hT.below (by rw [HH.out]; exact hB.trans hB2))).mono ?_; rintro e w3 ⟨rfl, hB3⟩)
        | (go_at_call 31; refine (wr_str H _ (mkB (Lib.itoa n)) _ (wr_below hI2 hB3) (by simp [mkB, ByteArray.size]; omega) (Nat.le_trans hBz (Nat.le_trans hB2.size hB3.size))).mono ?_; rintro e w4 ⟨rfl, hI4, hB4⟩))
      go_roundw
      case rel =>
        refine ⟨i + 1, by go_num, by omega, ?_, ((hB.trans hB2).trans (hB3.mono (Nat.le_trans hBz hB2.size))).trans hB4⟩
        rw [HN.out]
        simpa [mkB] using hI4
      case measure => simp [intOf]; omega
    · have hie : i = l1.length := by omega
      have htk : l1.take i = l1 := List.take_of_length_le (by omega)
      rw [htk] at hI
      have hb2 := rowHead_le a0.data.toList l1 HRng.out
      have ha0 : a0.data.toList.length = a0.size := by simp
      have hq1 := wr_byte H _ 10 wr hI (by omega) hBz
      have HQ1 := Lib.hid hq1
      clear hq1 htk hie ha0
      go_wp2_with (first
        | (go_at_call 32; refine HQ1.out.mono ?_; rintro e w2 ⟨rfl, hI2, hB2⟩)
        | (go_at_call 33; refine (wr_end H _ _ hI2 (Nat.le_trans hBz hB2.size)).mono ?_; rintro e w3 ⟨rfl, hB3⟩))
      go_ret
      exact ⟨rfl, by rw [HH.out]; exact (hB.trans hB2).trans hB3⟩
end Go.Proofs.YtdjnnkfopgmpaaaDoor.H
