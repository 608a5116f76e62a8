/- Texts of this proof, joined; what the statement doesn't need is left out. -/
import Derived.Test.YtcgdloldkcmhnaaGreatP4
section
namespace Go.Proofs.YtcgdloldkcmhnaaGreat.H
open Go Go.RowKit Go.Proofs.YtcgdloldkcmhnaaGreat.PrintC Go.Proofs.YtcgdloldkcmhnaaGreat.PrintE Go.Proofs.YtcgdloldkcmhnaaGreatW.PrintWords
theorem infoNum : (Tryz.prog.info? 3).map (fun i => (i.zero, i.size, i.bytes)) = some (some (.int .i64 0), 1, 8) := by kernel_rfl
theorem infoMv : (Tryz.prog.info? 76).map (fun i => (i.zero, i.size, i.bytes)) = some (some (.agg #[.int .i64 0, .int .i64 0, .int .i64 0]), 3, 24) := by kernel_rfl
abbrev Mv := S76
abbrev kMv := k76
def sameK (a b : Mv) : Bool := decide (a.f0 = b.f0 ∧ a.f1 = b.f1)
theorem sameK_iff {a b : Mv} : sameK a b = true ↔ a.f0 = b.f0 ∧ a.f1 = b.f1 := decide_eq_true_iff
theorem sameK_sym {a b : Mv} (h : sameK a b = true) : sameK b a = true := by rw [sameK_iff] at h ⊢; exact ⟨h.1.symm, h.2.symm⟩
def amt (l : List Mv) (x : Mv) : Int := sumL ((l.filter (sameK x)).map (·.f2))
theorem amt_same {l : List Mv} {x y : Mv} (h : sameK x y = true) : amt l x = amt l y := by
 have e : sameK x = sameK y := by
  rw [sameK_iff] at h
  funext z
  unfold sameK
  rw [h.1, h.2]
 unfold amt
 rw [e]
def mlt (a b : Mv) : Prop := a.f1 < b.f1 ∨ a.f1 = b.f1 ∧ a.f0 < b.f0
theorem mlt_trans {a b c : Mv} (h : mlt a b) (k : mlt b c) : mlt a c := by
 unfold mlt at *
 omega
theorem mlt_of {a b : Mv} (h : ¬ mlt a b) (k : sameK b a = false) : mlt b a := by
 unfold sameK at k
 rw [decide_eq_false_iff_not] at k
 unfold mlt at *
 omega
def mvAt (l : List Mv) (i : Nat) : Mv := rd_T76 l (i : Int)
theorem mvAt_mem {l : List Mv} {i : Nat} (h : i < l.length) : mvAt l i ∈ l := by
 unfold mvAt rd_T76
 rw [Int.toNat_natCast, List.getD_eq_getElem?_getD, List.getElem?_eq_getElem h]
 exact List.getElem_mem h
theorem mvAt_take {l : List Mv} {i : Nat} (h : i < l.length) : l.take (i + 1) = l.take i ++ [mvAt l i] := by
 have e : mvAt l i = l[i] := by
  unfold mvAt rd_T76
  rw [Int.toNat_natCast, List.getD_eq_getElem?_getD, List.getElem?_eq_getElem h]
  rfl
 rw [List.take_add_one, List.getElem?_eq_getElem h, e]
 rfl
theorem mem_take_at {l : List Mv} {x : Mv} : ∀ {i : Nat}, i ≤ l.length → x ∈ l.take i → ∃ k, k < i ∧ x = mvAt l k
 |0, _, h => by simp at h
 |i + 1, hi, h => by
  rw [mvAt_take (by omega), List.mem_append, List.mem_singleton] at h
  rcases h with h | h
  ·obtain ⟨k, hk, e⟩ := mem_take_at (by omega) h
   exact ⟨k, by omega, e⟩
  ·exact ⟨i, by omega, h⟩
theorem at_mem_take {l : List Mv} : ∀ {i k : Nat}, i ≤ l.length → k < i → mvAt l k ∈ l.take i
 |i + 1, k, hi, hk => by
  rw [mvAt_take (by omega), List.mem_append, List.mem_singleton]
  by_cases e : k = i
  ·rw [e]
   exact .inr rfl
  ·exact .inl (at_mem_take (by omega) (by omega))
structure MgI (l : List Mv) (i : Nat) (m : List Mv) : Prop where
 srt : m.Pairwise mlt
 am : ∀ y, y ∈ m → y.f2 = amt l y ∧ y.f2 ≠ 0 ∧ ∃ x, x ∈ l.take i ∧ sameK x y = true
 all : ∀ x, x ∈ l.take i → fits (amt l x) = true ∧ (amt l x ≠ 0 → ∃ y, y ∈ m ∧ sameK x y = true)
abbrev MgOf (l m : List Mv) : Prop := MgI l l.length m
theorem MgI.zero (l : List Mv) : MgI l 0 [] := ⟨List.Pairwise.nil, fun _ h => (nomatch h), fun _ h => by simp at h⟩
section
variable {l m : List Mv} {i : Nat}
theorem MgI.had (h : MgI l i m) (hi : i < l.length) {k : Nat} (hk : k < i) (e : sameK (mvAt l k) (mvAt l i) = true) : MgI l (i + 1) m where
 srt := h.srt
 am y hy := by
  obtain ⟨a, b, x, hx, c⟩ := h.am y hy
  exact ⟨a, b, x, by rw [mvAt_take hi]; exact List.mem_append_left _ hx, c⟩
 all x hx := by
  rw [mvAt_take hi, List.mem_append, List.mem_singleton] at hx
  rcases hx with hx | rfl
  ·exact h.all x hx
  ·obtain ⟨a, b⟩ := h.all (mvAt l k) (at_mem_take (by omega) hk)
   rw [amt_same e] at a b
   refine ⟨a, fun g => ?_⟩
   obtain ⟨y, hy, c⟩ := b g
   rw [sameK_iff] at e c
   exact ⟨y, hy, by rw [sameK_iff]; exact ⟨e.1.symm.trans c.1, e.2.symm.trans c.2⟩⟩
theorem MgI.none (h : MgI l i m) (hi : i < l.length) (e : amt l (mvAt l i) = 0) : MgI l (i + 1) m where
 srt := h.srt
 am y hy := by
  obtain ⟨a, b, x, hx, c⟩ := h.am y hy
  exact ⟨a, b, x, by rw [mvAt_take hi]; exact List.mem_append_left _ hx, c⟩
 all x hx := by
  rw [mvAt_take hi, List.mem_append, List.mem_singleton] at hx
  rcases hx with hx | rfl
  ·exact h.all x hx
  ·rw [e]
   exact ⟨rfl, fun g => absurd rfl g⟩
theorem MgI.ins {a b : List Mv} {X : Mv} (h : MgI l i (a ++ b)) (hi : i < l.length) (hn : ∀ k, k < i → sameK (mvAt l k) (mvAt l i) = false) (hX : X = ⟨(mvAt l i).f0, (mvAt l i).f1, amt l (mvAt l i)⟩) (hf : fits (amt l (mvAt l i)) = true) (h0 : amt l (mvAt l i) ≠ 0) (hb : ∀ y, y ∈ b → mlt X y) (ha : ∀ (a' : List Mv) (y : Mv), a = a' ++ [y] → ¬ mlt X y) : MgI l (i + 1) (a ++ X :: b) where
 srt := by
  have hd : ∀ y, y ∈ a ++ b → sameK y X = false := fun y hy => by
   obtain ⟨_, _, x, hx, c⟩ := h.am y hy
   obtain ⟨k, hk, rfl⟩ := mem_take_at (by omega) hx
   have := hn k hk
   cases e : sameK y X with
   |false => rfl
   |true =>
    rw [sameK_iff] at c e
    rw [hX] at e
    have : sameK (mvAt l k) (mvAt l i) = true := sameK_iff.2 ⟨c.1.trans e.1, c.2.trans e.2⟩
    rw [hn k hk] at this
    cases this
  have hs := List.pairwise_append.1 h.srt
  have hal : ∀ y, y ∈ a → mlt y X := by
   rcases List.eq_nil_or_concat a with rfl | ⟨a', z, e⟩
   ·exact fun y hy => nomatch hy
   ·rw [List.concat_eq_append] at e
    subst e
    have hz := mlt_of (ha a' z rfl) (hd z (by simp))
    intro y hy
    rw [List.mem_append, List.mem_singleton] at hy
    rcases hy with hy | rfl
    ·exact mlt_trans ((List.pairwise_append.1 hs.1).2.2 y hy z (List.mem_singleton.2 rfl)) hz
    ·exact hz
  refine List.pairwise_append.2 ⟨hs.1, List.pairwise_cons.2 ⟨hb, hs.2.1⟩, fun y hy z hz => ?_⟩
  rcases List.mem_cons.1 hz with rfl | hz
  ·exact hal y hy
  ·exact hs.2.2 y hy z hz
 am y hy := by
  have hy2 : y = X ∨ y ∈ a ++ b := by
   rw [List.mem_append, List.mem_cons] at hy
   rw [List.mem_append]
   rcases hy with hy | rfl | hy
   ·exact .inr (.inl hy)
   ·exact .inl rfl
   ·exact .inr (.inr hy)
  rcases hy2 with rfl | hy2
  ·have e : sameK (mvAt l i) y = true := by rw [hX]; exact sameK_iff.2 ⟨rfl, rfl⟩
   refine ⟨?_, ?_, mvAt l i, by rw [mvAt_take hi]; simp, e⟩
   ·rw [← amt_same e, hX]
   ·rw [hX]
    exact h0
  ·obtain ⟨p, q, x, hx, c⟩ := h.am y hy2
   exact ⟨p, q, x, by rw [mvAt_take hi]; exact List.mem_append_left _ hx, c⟩
 all x hx := by
  rw [mvAt_take hi, List.mem_append, List.mem_singleton] at hx
  rcases hx with hx | rfl
  ·obtain ⟨p, q⟩ := h.all x hx
   refine ⟨p, fun g => ?_⟩
   obtain ⟨y, hy, c⟩ := q g
   refine ⟨y, ?_, c⟩
   rw [List.mem_append] at hy
   rw [List.mem_append, List.mem_cons]
   rcases hy with hy | hy
   ·exact .inl hy
   ·exact .inr (.inr hy)
  ·exact ⟨hf, fun _ => ⟨X, by simp, by rw [hX]; exact sameK_iff.2 ⟨rfl, rfl⟩⟩⟩
end
def MovesAt (l : List Mv) (w : World) (e : Ending) (w' : World) : Prop := Below w.heap.size w w' ∧ ((e = .returned (.tuple #[.slice none 0 0, .int .i64 10]) ∧ ∃ x, x ∈ l ∧ fits (amt l x) = false) ∨
 ∃ (m : List Mv) (A1 : Option Addr) (c1 : Nat), e = .returned (.tuple #[.slice A1 m.length c1, .int .i64 0]) ∧ Kd.R kMv 76 w' w.heap.size (fun _ => True) (.slice A1 m.length c1) m ∧ MgOf l m ∧ m.length ≤ l.length)
end Go.Proofs.YtcgdloldkcmhnaaGreat.H
end
section
namespace Go.Proofs.YtcgdloldkcmhnaaGreat.H
open Go Go.RowKit Go.Proofs.YtcgdloldkcmhnaaGreat.PrintC Go.Proofs.YtcgdloldkcmhnaaGreat.PrintE
set_option linter.unusedVariables false
def WfM (x : Mv) : Prop := Wf x.f0 ∧ Wf x.f1
def gIdx (l : List Mv) (i : Nat) (x : Mv) : List Int := ((List.range i).filter fun k => sameK x (mvAt l k)).map fun k : Nat => (k : Int)
theorem gIdx_next (l : List Mv) (i : Nat) (x : Mv) : gIdx l (i + 1) x = gIdx l i x ++ (if sameK x (mvAt l i) = true then [(i : Int)] else []) := by
 unfold gIdx
 rw [List.range_succ, List.filter_append, List.map_append]
 congr 1
 by_cases e : sameK x (mvAt l i) = true <;> simp [e]
theorem gIdx_mem {l : List Mv} {i : Nat} {x : Mv} {k : Int} (h : k ∈ gIdx l i x) : ∃ t : Nat, t < i ∧ k = t ∧ sameK x (mvAt l t) = true := by
 unfold gIdx at h
 obtain ⟨t, ht, rfl⟩ := List.mem_map.1 h
 obtain ⟨h1, h2⟩ := List.mem_filter.1 ht
 exact ⟨t, List.mem_range.1 h1, rfl, h2⟩
theorem gIdx_len (l : List Mv) (i : Nat) (x : Mv) : (gIdx l i x).length ≤ i := by
 unfold gIdx
 rw [List.length_map]
 exact Nat.le_trans (List.length_filter_le _ _) (by rw [List.length_range]; exact Nat.le_refl _)
theorem gIdx_nums {l : List Mv} (x : Mv) : ∀ {i : Nat}, i ≤ l.length → (gIdx l i x).map (fun k => (mvAt l k.toNat).f2) = ((l.take i).filter (sameK x)).map (·.f2)
 |0, _ => by simp [gIdx]
 |i + 1, h => by
  rw [gIdx_next, mvAt_take (by omega), List.map_append, List.filter_append, List.map_append, gIdx_nums x (by omega)]
  congr 1
  by_cases e : sameK x (mvAt l i) = true
  ·rw [if_pos e, List.filter_cons_of_pos e]
   rfl
  ·rw [if_neg e, List.filter_cons_of_neg e]
   rfl
structure GaI (l : List Mv) (i : Nat) (hs : List Mv) (D : DataW Unit) : Prop where
 dst : hs.Pairwise (fun a b => sameK a b = false)
 mem : ∀ x, x ∈ hs → ∃ k, k < i ∧ x = mvAt l k
 all : ∀ k, k < i → ∃ y, y ∈ hs ∧ sameK y (mvAt l k) = true
 isM : Maps.IsMap D
 has : ∀ x : Mv, WfM x → Maps.has D (slotKey x.f0 x.f1) = hs.any (fun y => sameK y x)
 atK : ∀ (j : Nat) (y : Mv), hs[j]? = some y → D.atKey (slotKey y.f0 y.f1) (.lit (.int .i64 0)) = .lit (.int .i64 j)
theorem GaI.zero (l : List Mv) : GaI l 0 [] (.map []) := ⟨List.Pairwise.nil, fun _ h => (nomatch h), fun _ h => absurd h (Nat.not_lt_zero _), ⟨_, rfl⟩, fun x _ => rfl, fun j y h => by simp at h⟩
theorem sameK_refl (x : Mv) : sameK x x = true := sameK_iff.2 ⟨rfl, rfl⟩
theorem sameK_trans {a b c : Mv} (h : sameK a b = true) (k : sameK b c = true) : sameK a c = true := by
 rw [sameK_iff] at *
 exact ⟨h.1.trans k.1, h.2.trans k.2⟩
section
variable {l hs : List Mv} {i : Nat} {D : DataW Unit}
theorem GaI.other (h : GaI l i hs D) {j t : Nat} {y z x : Mv} (hj : hs[j]? = some y) (ht : hs[t]? = some z) (hy : sameK y x = true) (hz : sameK z x = true) : t = j := by
 have h1 := List.pairwise_iff_getElem.1 h.dst
 obtain ⟨p1, p2⟩ := List.getElem?_eq_some_iff.1 hj
 obtain ⟨q1, q2⟩ := List.getElem?_eq_some_iff.1 ht
 rcases Nat.lt_trichotomy t j with c | c | c
 ·have := h1 t j q1 p1 c
  rw [q2, p2, sameK_trans hz (sameK_sym hy)] at this
  cases this
 ·exact c
 ·have := h1 j t p1 q1 c
  rw [q2, p2, sameK_trans hy (sameK_sym hz)] at this
  cases this
theorem GaI.had (h : GaI l i hs D) {j : Nat} {y : Mv} (hj : hs[j]? = some y) (hy : sameK y (mvAt l i) = true) :
  GaI l (i + 1) hs D ∧ (hs.map (gIdx l i)).set j (gIdx l i y ++ [(i : Int)]) = hs.map (gIdx l (i + 1)) := by
 refine ⟨⟨h.dst, fun x hx => ?_, fun k hk => ?_, h.isM, h.has, h.atK⟩, ?_⟩
 ·obtain ⟨k, hk, e⟩ := h.mem x hx
  exact ⟨k, by omega, e⟩
 ·by_cases e : k = i
  ·rw [e]
   exact ⟨y, List.mem_of_getElem? hj, hy⟩
  ·exact h.all k (by omega)
 ·refine List.ext_getElem? fun t => ?_
  by_cases e : j = t
  ·subst e
   have hl : j < (hs.map (gIdx l i)).length := by rw [List.length_map]; exact (List.getElem?_eq_some_iff.1 hj).1
   rw [List.getElem?_set_self hl, List.getElem?_map, hj, Option.map_some, gIdx_next, if_pos hy]
  ·rw [List.getElem?_set_ne e, List.getElem?_map, List.getElem?_map]
   cases ht : hs[t]? with
   |none => rfl
   |some z =>
    rw [Option.map_some, Option.map_some, gIdx_next]
    by_cases hz : sameK z (mvAt l i) = true
    ·exact absurd (h.other hj ht hy hz).symm e
    ·rw [if_neg hz, List.append_nil]
theorem GaI.put (h : GaI l i hs D) (hx : WfM (mvAt l i)) (hw : ∀ y, y ∈ hs → WfM y) (hn : hs.any (fun y => sameK y (mvAt l i)) = false) :
  GaI l (i + 1) (hs ++ [mvAt l i]) (D.put (slotKey (mvAt l i).f0 (mvAt l i).f1) (.lit (.int .i64 (hs.length : Int)))) ∧ (hs.map (gIdx l i) ++ [[]]).set hs.length ([] ++ [(i : Int)]) = (hs ++ [mvAt l i]).map (gIdx l (i + 1)) := by
 have hn' : ∀ y, y ∈ hs → sameK y (mvAt l i) = false := fun y hy => by
  have := List.any_eq_false.1 hn y hy
  simpa using this
 have hk : ∀ y : Mv, WfM y → sameK y (mvAt l i) = false → slotKey y.f0 y.f1 ≠ slotKey (mvAt l i).f0 (mvAt l i).f1 := fun y wy e1 e2 => by
  obtain ⟨a, b⟩ := slotKey_inj wy.1 wy.2 hx.1 hx.2 e2
  rw [sameK_iff.2 ⟨a, b⟩] at e1
  cases e1
 have hkl := slotLaw.key (slotKeyOf (mvAt l i).f0 (mvAt l i).f1 hx.1 hx.2)
 refine ⟨⟨?_, ?_, ?_, ?_, ?_, ?_⟩, ?_⟩
 ·exact List.pairwise_append.2 ⟨h.dst, List.pairwise_singleton _ _, fun a ha b hb => by rw [List.mem_singleton.1 hb]; exact hn' a ha⟩
 ·intro x hx
  rcases List.mem_append.1 hx with hx | hx
  ·obtain ⟨k, hk, e⟩ := h.mem x hx
   exact ⟨k, by omega, e⟩
  ·exact ⟨i, by omega, List.mem_singleton.1 hx⟩
 ·intro k hk
  by_cases e : k = i
  ·rw [e]
   exact ⟨_, List.mem_append_right _ (List.mem_singleton.2 rfl), sameK_refl _⟩
  ·obtain ⟨y, hy, e2⟩ := h.all k (by omega)
   exact ⟨y, List.mem_append_left _ hy, e2⟩
 ·obtain ⟨es, rfl⟩ := h.isM
  exact ⟨_, rfl⟩
 ·intro x wx
  rw [List.any_append]
  by_cases e : sameK (mvAt l i) x = true
  ·obtain ⟨a, b⟩ := sameK_iff.1 e
   rw [← a, ← b, Maps.has_put_same h.isM hkl]
   simp [sameK_iff, a, b]
  ·have e' : sameK (mvAt l i) x = false := by simpa using e
   rw [Maps.has_put_other (hk x wx (by cases c : sameK x (mvAt l i) with
    |false => rfl
    |true => exact absurd (sameK_sym c) e)), h.has x wx]
   simp [e']
 ·intro j y hj
  by_cases e : j < hs.length
  ·rw [List.getElem?_append_left e] at hj
   have hy := List.mem_of_getElem? hj
   rw [Maps.atKey_put_other (hk y (hw y hy) (hn' y hy))]
   exact h.atK j y hj
  ·rw [List.getElem?_append_right (by omega)] at hj
   have e2 : j - hs.length = 0 := by
    rcases Nat.eq_zero_or_pos (j - hs.length) with c | c
    ·exact c
    ·rw [List.getElem?_eq_none (by rw [List.length_singleton]; omega)] at hj
     cases hj
   rw [e2] at hj
   have e3 : mvAt l i = y := by simpa using hj
   rw [← e3, Maps.atKey_put_same h.isM hkl, show j = hs.length by omega]
 ·have hz : gIdx l i (mvAt l i) = [] := by
   rw [List.eq_nil_iff_forall_not_mem]
   intro k hk
   obtain ⟨t, ht, -, e⟩ := gIdx_mem hk
   obtain ⟨y, hy, e2⟩ := h.all t ht
   have := hn' y hy
   rw [sameK_trans e2 (sameK_sym e)] at this
   cases this
  have e1 : (hs.map (gIdx l i) ++ [[]]).set hs.length ([] ++ [(i : Int)]) = hs.map (gIdx l i) ++ [[(i : Int)]] := by
   rw [List.set_append_right _ _ (by rw [List.length_map]; exact Nat.le_refl _), List.length_map, Nat.sub_self]
   rfl
  rw [e1, List.map_append]
  congr 1
  ·refine List.map_congr_left fun y hy => ?_
   rw [gIdx_next, if_neg (by rw [hn' y hy]; decide), List.append_nil]
  ·show [[(i : Int)]] = [gIdx l (i + 1) (mvAt l i)]
   rw [gIdx_next, hz, if_pos (sameK_refl _)]
   rfl
end
def mOf (l : List Mv) (x : Mv) : Mv := ⟨x.f0, x.f1, amt l x⟩
def mAll (l hs : List Mv) : List Mv := (hs.map (mOf l)).filter fun x => decide (x.f2 ≠ 0)
theorem mAll_snoc (l hs : List Mv) (x : Mv) : mAll l (hs ++ [x]) = mAll l hs ++ (if amt l x ≠ 0 then [mOf l x] else []) := by
 unfold mAll
 rw [List.map_append, List.filter_append]
 congr 1
 by_cases e : amt l x ≠ 0
 ·rw [if_pos e]
  exact List.filter_cons_of_pos (decide_eq_true e)
 ·rw [if_neg e]
  exact List.filter_cons_of_neg (by rw [decide_eq_true_eq]; exact e)
theorem mAll_len (l hs : List Mv) : (mAll l hs).length ≤ hs.length := by
 unfold mAll
 exact Nat.le_trans (List.length_filter_le _ _) (by rw [List.length_map]; exact Nat.le_refl _)
theorem merged_of {l hs ys : List Mv} {D : DataW Unit} (h : GaI l l.length hs D) (hf : ∀ x, x ∈ hs → fits (amt l x) = true) (hp : ys.Perm (mAll l hs)) (hs' : ys.Pairwise (fun a b => ¬ mlt b a)) : MgOf l ys := by
 have hd : ys.Pairwise (fun a b => sameK a b = false) := by
  refine (List.Perm.pairwise_iff (fun {a b} e => ?_) hp).2 ?_
  ·cases c : sameK b a with
   |false => rfl
   |true =>
    rw [sameK_sym c] at e
    cases e
  ·unfold mAll
   refine List.Pairwise.filter _ ?_
   rw [List.pairwise_map]
   exact h.dst
 refine ⟨?_, ?_, ?_⟩
 ·refine List.Pairwise.imp ?_ (hs'.and hd)
  intro a b hab
  exact mlt_of hab.1 hab.2
 ·intro y hy
  have h1 := hp.mem_iff.1 hy
  unfold mAll at h1
  obtain ⟨h2, h3⟩ := List.mem_filter.1 h1
  obtain ⟨x, hx, rfl⟩ := List.mem_map.1 h2
  have e : sameK x (mOf l x) = true := sameK_iff.2 ⟨rfl, rfl⟩
  obtain ⟨k, hk, ek⟩ := h.mem x hx
  refine ⟨(amt_same e), of_decide_eq_true h3, x, ?_, e⟩
  rw [ek]
  exact at_mem_take (Nat.le_refl _) hk
 ·intro x hx
  obtain ⟨k, hk, rfl⟩ := mem_take_at (Nat.le_refl _) hx
  obtain ⟨y, hy, e⟩ := h.all k hk
  rw [← amt_same e]
  refine ⟨hf y hy, fun h0 => ⟨mOf l y, ?_, sameK_iff.2 ⟨(sameK_iff.1 e).1.symm, (sameK_iff.1 e).2.symm⟩⟩⟩
  rw [hp.mem_iff]
  exact List.mem_filter.2 ⟨List.mem_map.2 ⟨y, hy, rfl⟩, decide_eq_true h0⟩
end Go.Proofs.YtcgdloldkcmhnaaGreat.H
end
section
namespace Go.Proofs.YtcgdloldkcmhnaaGreat.H
open Go Go.RowKit Go.Proofs.YtcgdloldkcmhnaaGreat.PrintC Go.Proofs.YtcgdloldkcmhnaaGreat.PrintE Go.Proofs.YtcgdloldkcmhnaaGreatW.PrintWords
set_option linter.unusedVariables false
abbrev Ent := Int × Int × Int
def eKey (x : Ent) : Lit := slotKey x.1 x.2.1
def toldOf (f : List Int) (x : Ent) : List Mv := if 0 < rd f x.2.2 then [⟨x.1, x.2.1, rd f x.2.2⟩] else []
def toldL (f : List Int) (mv : List Ent) : List Mv := mv.flatMap (toldOf f)
theorem toldL_snoc (f : List Int) (d : List Ent) (x : Ent) : toldL f (d ++ [x]) = toldL f d ++ toldOf f x := by
 unfold toldL
 rw [List.flatMap_append]
 simp
theorem toldL_len (f : List Int) : ∀ mv : List Ent, (toldL f mv).length ≤ mv.length
 |[] => Nat.le_refl _
 |x :: mv => by
  have h1 := toldL_len f mv
  unfold toldL at h1 ⊢
  rw [List.flatMap_cons, List.length_append, List.length_cons]
  have h2 : (toldOf f x).length ≤ 1 := by
   unfold toldOf
   split <;> simp
  omega
theorem sumL_perm {a b : List Int} (h : a.Perm b) : sumL a = sumL b := by
 induction h with
 |nil => rfl
 |cons x _ ih => rw [sumL, sumL, ih]
 |swap x y l => rw [sumL, sumL, sumL, sumL]; omega
 |trans _ _ h1 h2 => rw [h1, h2]
theorem amt_perm {a b : List Mv} (h : a.Perm b) (x : Mv) : amt a x = amt b x := sumL_perm ((h.filter _).map _)
theorem MgOf.perm {a b m : List Mv} (h : MgOf a m) (p : a.Perm b) : MgOf b m := by
 refine ⟨h.srt, fun y hy => ?_, fun x hx => ?_⟩
 ·obtain ⟨h1, h2, x, hx, h3⟩ := h.am y hy
  rw [List.take_length] at hx ⊢
  exact ⟨by rw [← amt_perm p]; exact h1, h2, x, p.mem_iff.1 hx, h3⟩
 ·rw [List.take_length] at hx
  have := h.all x (by rw [List.take_length]; exact p.mem_iff.2 hx)
  rw [← amt_perm p]
  exact this
structure EntOk (mv : List Ent) : Prop where
 dst : mv.Pairwise (fun x y => ¬ (x.1 = y.1 ∧ x.2.1 = y.2.1))
 small : ∀ x, x ∈ mv → (0 ≤ x.1 ∧ x.1 ≤ 1000000) ∧ (0 ≤ x.2.1 ∧ x.2.1 ≤ 1000000) ∧ 0 ≤ x.2.2 ∧ x.2.2 ≤ 1000000
section
variable {mv : List Ent}
theorem EntOk.wf (h : EntOk mv) {x : Ent} (hx : x ∈ mv) : Wf x.1 ∧ Wf x.2.1 := by
 have := h.small x hx
 exact ⟨small_wf this.1.1 (by omega), small_wf this.2.1.1 (by omega)⟩
theorem EntOk.nodup (h : EntOk mv) : mv.Nodup := h.dst.imp (fun hxy e => hxy (by rw [e]; exact ⟨rfl, rfl⟩))
theorem EntOk.inj (h : EntOk mv) {x y : Ent} (hx : x ∈ mv) (hy : y ∈ mv) (e : eKey x = eKey y) : x = y := by
 obtain ⟨e1, e2⟩ := slotKey_inj (h.wf hx).1 (h.wf hx).2 (h.wf hy).1 (h.wf hy).2 e
 obtain ⟨i, hi, rfl⟩ := List.getElem_of_mem hx
 obtain ⟨j, hj, rfl⟩ := List.getElem_of_mem hy
 have h1 := List.pairwise_iff_getElem.1 h.dst
 rcases Nat.lt_trichotomy i j with c | c | c
 ·exact absurd ⟨e1, e2⟩ (h1 i j hi hj c)
 ·subst c
  rfl
 ·exact absurd ⟨e1.symm, e2.symm⟩ (h1 j i hj hi c)
theorem eKey_lit {x : Ent} (h : Wf x.1 ∧ Wf x.2.1) : WideAt.IsKeyLit (eKey x) := slotLaw.key (slotKeyOf x.1 x.2.1 h.1 h.2)
theorem isMap_putAll (mv : List Ent) : Maps.IsMap (putAll mv) := by
 have h : ∀ (L : List Ent) (D : DataW Unit), Maps.IsMap D → Maps.IsMap (L.foldl (fun D x => D.put (slotKey x.1 x.2.1) (.lit (.int .i64 x.2.2))) D) := fun L => by
  induction L with
  |nil => exact fun D h => h
  |cons x L ih =>
   intro D h
   obtain ⟨es, rfl⟩ := h
   exact ih _ ⟨_, rfl⟩
 exact h mv _ ⟨_, rfl⟩
theorem has_putAll : ∀ {mv : List Ent}, (∀ x, x ∈ mv → Wf x.1 ∧ Wf x.2.1) → ∀ kl, Maps.has (putAll mv) kl = true → ∃ x, x ∈ mv ∧ eKey x = kl := by
 intro mv hw kl h
 have g : ∀ (L : List Ent) (D : DataW Unit), (∀ x, x ∈ L → Wf x.1 ∧ Wf x.2.1) → Maps.has (L.foldl (fun D x => D.put (slotKey x.1 x.2.1) (.lit (.int .i64 x.2.2))) D) kl = true → Maps.has D kl = true ∨ ∃ x, x ∈ L ∧ eKey x = kl := fun L => by
  induction L with
  |nil => exact fun D _ h => .inl h
  |cons x L ih =>
   intro D hw h
   rcases ih _ (fun y hy => hw y (List.mem_cons_of_mem _ hy)) h with h1 | ⟨y, hy, e⟩
   ·by_cases e : eKey x = kl
    ·exact .inr ⟨x, List.mem_cons_self .., e⟩
    ·have h2 := Maps.has_put_other (k := eKey x) (k' := kl) (fun e2 => e e2.symm) (D := D) (.lit (.int .i64 x.2.2))
     exact .inl (h2.symm.trans h1)
   ·exact .inr ⟨y, List.mem_cons_of_mem _ hy, e⟩
 rcases g mv _ hw h with h1 | h1
 ·cases h1
 ·exact h1
theorem putAll_at (h : EntOk mv) {x : Ent} (hx : x ∈ mv) (z : DataW Unit) : (putAll mv).atKey (eKey x) z = .lit (.int .i64 x.2.2) ∧ Maps.has (putAll mv) (eKey x) = true := by
 obtain ⟨a, b, rfl⟩ := List.append_of_mem hx
 have g : ∀ (L : List Ent) (D : DataW Unit), Maps.IsMap D → (∀ y, y ∈ L → eKey y ≠ eKey x) → (L.foldl (fun D x => D.put (slotKey x.1 x.2.1) (.lit (.int .i64 x.2.2))) D).atKey (eKey x) z = D.atKey (eKey x) z ∧ Maps.has (L.foldl (fun D x => D.put (slotKey x.1 x.2.1) (.lit (.int .i64 x.2.2))) D) (eKey x) = Maps.has D (eKey x) := fun L => by
  induction L with
  |nil => exact fun D _ _ => ⟨rfl, rfl⟩
  |cons y L ih =>
   intro D hD hn
   have h1 := hn y (List.mem_cons_self ..)
   obtain ⟨h2, h3⟩ := ih (D.put (slotKey y.1 y.2.1) (.lit (.int .i64 y.2.2))) (by obtain ⟨es, rfl⟩ := hD; exact ⟨_, rfl⟩) (fun v hv => hn v (List.mem_cons_of_mem _ hv))
   rw [List.foldl_cons, h2, h3]
   exact ⟨Maps.atKey_put_other (fun e => h1 e.symm) _ _, Maps.has_put_other (fun e => h1 e.symm) _⟩
 have e : putAll (a ++ x :: b) = b.foldl (fun D x => D.put (slotKey x.1 x.2.1) (.lit (.int .i64 x.2.2))) ((putAll a).put (eKey x) (.lit (.int .i64 x.2.2))) := by
  unfold putAll
  rw [List.foldl_append]
  rfl
 have hk := eKey_lit (h.wf hx)
 have hne : ∀ y, y ∈ b → eKey y ≠ eKey x := fun y hy e2 => by
  have h4 := (List.pairwise_append.1 h.nodup).2.1
  have h5 := List.pairwise_cons.1 h4
  exact h5.1 y hy (h.inj (List.mem_append_right _ (List.mem_cons_of_mem _ hy)) hx e2).symm
 obtain ⟨g1, g2⟩ := g b ((putAll a).put (eKey x) (.lit (.int .i64 x.2.2))) (by obtain ⟨es, hes⟩ := isMap_putAll a; rw [hes]; exact ⟨_, rfl⟩) hne
 rw [e, g1, g2]
 exact ⟨Maps.atKey_put_same (isMap_putAll a) hk _ _, Maps.has_put_same (isMap_putAll a) hk _⟩
def LeftI (mv dn : List Ent) (left : Lit → Bool) : Prop := ∀ kl, left kl = true ↔ ∃ x, x ∈ mv ∧ x ∉ dn ∧ eKey x = kl
theorem LeftI.start (h : EntOk mv) : LeftI mv [] (Maps.has (putAll mv)) := fun kl => by
 constructor
 ·intro h1
  obtain ⟨x, hx, e⟩ := has_putAll (fun x hx => h.wf hx) kl h1
  exact ⟨x, hx, by simp, e⟩
 ·rintro ⟨x, hx, -, rfl⟩
  exact (putAll_at h hx (.map [])).2
theorem LeftI.step (h : EntOk mv) {dn : List Ent} {left : Lit → Bool} (hl : LeftI mv dn left) {x : Ent} (hx : x ∈ mv) : LeftI mv (dn ++ [x]) (fun z => left z && !z.sameKey (eKey x)) := fun kl => by
 rw [Bool.and_eq_true, hl kl]
 constructor
 ·rintro ⟨⟨y, hy, hn, rfl⟩, hs⟩
  refine ⟨y, hy, fun hm => ?_, rfl⟩
  rcases List.mem_append.1 hm with hm | hm
  ·exact hn hm
  ·rw [List.mem_singleton.1 hm, WideAt.sameKey_self (eKey_lit (h.wf hx))] at hs
   cases hs
 ·rintro ⟨y, hy, hn, rfl⟩
  refine ⟨⟨y, hy, fun hm => hn (List.mem_append_left _ hm), rfl⟩, ?_⟩
  cases c : (eKey y).sameKey (eKey x) with
  |false => rfl
  |true => exact absurd (List.mem_append_right dn (List.mem_singleton.2 (h.inj hy hx (WideAt.sameKey_eq c)))) hn
theorem LeftI.done (h : EntOk mv) {dn : List Ent} {left : Lit → Bool} (hl : LeftI mv dn left) (hd : dn.Nodup) (hs : ∀ x, x ∈ dn → x ∈ mv) (h0 : ∀ kl, left kl = false) : dn.Perm mv := by
 refine (List.perm_ext_iff_of_nodup hd h.nodup).2 (fun x => ⟨hs x, fun hx => ?_⟩)
 by_cases e : x ∈ dn
 ·exact e
 ·have := (hl (eKey x)).2 ⟨x, hx, e, rfl⟩
  rw [h0] at this
  cases this
end
theorem toldL_perm (f : List Int) {a b : List Ent} (h : a.Perm b) : (toldL f a).Perm (toldL f b) := h.flatMap_right _
end Go.Proofs.YtcgdloldkcmhnaaGreat.H
end
section
namespace Go.Proofs.YtcgdloldkcmhnaaGreat.H
open Go Go.RowKit Go.Proofs.YtcgdloldkcmhnaaGreatW.PrintWords Go.Proofs.YtcgdloldkcmhnaaGreatW.PrintLast Go.Proofs.YtcgdloldkcmhnaaGreatW.PrintMore
section
variable {P : Program} {md : Region.Mode} {ops : Array Oper} {Q : Exit → Act → World → Prop} {S : World → Prop} {ds : List Nat}
theorem sS (i : Nat) {oi : Oper} {fuel : Nat} {l : Array Bool} {a : Act} {w w1 : World} (h : wpAnyLast P md ops Q S ds fuel (l.setIfInBounds i true) a w1)
  (hi : ops[i]? = some oi := by exact rfl) (hN : oi.dst = none := by exact rfl) (hr : readyB md ops l (l.setIfInBounds i true) i = true := by kernel_rfl) (hd : i ∈ ds := by decide) (hw : Region.wanted oi (yielded ops a.tmps) = true := by rfl)
  (hrun : (execOp a.eval oi).run P w = .ok .skip w1 := by (go_simp; rfl)) : wpAnyLast P md ops Q S ds (fuel + 1) l a w :=
 last_ _ hi hN hr hd fun _ hK => skip_ hw hN hrun (hK.out _ _ h)
theorem wT {fuel : Nat} {l : Array Bool} {a : Act} {w : World} (T : Bool × List (List Nat × List Nat)) (h : Hid (rtab md ops = T) → wpAnyLast P md ops Q S ds fuel l a w) (hT : rtab md ops = T := by kernel_rfl) : wpAnyLast P md ops Q S ds fuel l a w := h (Lib.hid hT)
theorem qP (n : Nat) {t : Tmp} {oi : Oper} {v : Value} {fuel : Nat} {l : Array Bool} {a a' : Act} {w : World} {T : Bool × List (List Nat × List Nat)} (hT : Hid (rtab md ops = T)) (h : wpAnyLast P md ops Q S ds fuel (l.setIfInBounds (n - (fuel + 1)) true) a' w) (hi : ops[n - (fuel + 1)]? = some oi := by exact rfl) (hN : oi.dst = some t := by exact rfl) (hc : anyT T l.toList (l.setIfInBounds (n - (fuel + 1)) true).toList (n - (fuel + 1)) = true := by kernel_rfl)
  (hQ : ∀ c a w, Q (.panic c) (a.put oi.dst v) w → Q (.panic c) a w := by exact fun _ _ _ h => h) (hy : Yields P ops oi v a := by first | (refine Or.inl ⟨by rfl, ?_⟩; intro w'; go_simp; with_reducible rfl) | exact Or.inr ⟨by rfl, rfl⟩)
  (ha : a.put (some t) v = a' := by (simp only [Act.put, List.setIfInBounds_toArray, List.set_cons_zero, List.set_cons_succ]; rfl)) : wpAnyLast P md ops Q S ds (fuel + 1) l a w := pure_ _ hi hN (any_of hT.out hc) hQ hy ha h
theorem qT (n : Nat) {t : Tmp} {oi : Oper} {v : Value} {fuel : Nat} {l : Array Bool} {a a' : Act} {w : World} {T : Bool × List (List Nat × List Nat)} (hT : Hid (rtab md ops = T)) (hS : S w) (h : wpAnyLast P md ops Q S ds fuel (l.setIfInBounds (n - (fuel + 1)) true) a' w) (hi : ops[n - (fuel + 1)]? = some oi := by exact rfl) (hN : oi.dst = some t := by exact rfl) (hc : takeT T ds l.toList (l.setIfInBounds (n - (fuel + 1)) true).toList (n - (fuel + 1)) = true := by kernel_rfl)
  (hQ : ∀ c a w, Q (.panic c) (a.put oi.dst v) w → Q (.panic c) a w := by exact fun _ _ _ h => h) (hy : YieldsIf P ops S oi v a := by (refine Or.inl ⟨by rfl, ?_⟩; intro w' hs'; (repeat (rcases hs' with ⟨_, hs'⟩)); go_simp; with_reducible rfl))
  (ha : a.put (some t) v = a' := by (simp only [Act.put, List.setIfInBounds_toArray, List.set_cons_zero, List.set_cons_succ]; rfl)) : wpAnyLast P md ops Q S ds (fuel + 1) l a w := take_ _ hi hN (take_of hT.out hc) hQ hy hS ha h
end
section
variable {P : Program} {ops : Array Oper} {Q : Exit → Act → World → Prop}
theorem gA {o : Oper} {rest : List Oper} {a : Act} {w0 W : World} {base : Nat} {α : Type} {d : Kd α} {T t : TypeId} {cs : α → List Value} (hk : AppK P d T t cs) {s x : Operand} {Ao : Option Addr} {co : Nat} (xs : List α) (p : α)
  (HO : d.R t W base (fun _ => True) (.slice Ao xs.length co) xs) (HB : Below base w0 W) (hbase : base ≤ W.heap.size) (hl : xs.length ≤ 1000000)
  (h : ∀ A1 c1 w1, d.R t w1 base (fun _ => True) (.slice A1 (xs.length + 1) c1) (xs ++ [p]) → Below base w0 w1 → W.grownBy w1 (Value.slice Ao xs.length co).ownBlock → wpList P ops Q rest (a.put o.dst (.slice A1 (xs.length + 1) c1)) w1)
  (hgd : o.guard = none := by exact rfl) (ho : o.op = .call { callee := .builtin .append, args := #[s, x], argTypes := #[T, T] } := by exact rfl) (hs : a.eval s = .slice Ao xs.length co := by exact rfl) (hx : a.eval x = .slice (some ⟨W.heap.size, 0, none⟩) 1 1 := by first | exact rfl | (simp; done) | (simp; rfl)) :
  wpList P ops Q (o :: rest) a (W.alloc (.cells (cs p).toArray t)) := by
 obtain ⟨z, bytes, h1, h2, h3, h4⟩ := hk.info
 refine Kd.R_append d (w0 := w0) base hgd s x T t z bytes ho hk.und h1 h2 hk.pos h3 _ xs p (cs p) (fun _ => True) (fun _ => False) hs hx (hk.made _ _ _ p) (fun _ hk => hk.elim) (fun _ _ => trivial) HO HB hbase (Nat.le_trans (Nat.mul_le_mul (Nat.succ_le_succ hl) h4) (by decide)) ?_
 intro v1 w1 o1 b1 g1 _
 obtain ⟨A1, c1, e1⟩ := Kd.R_slice o1
 rw [List.length_append] at e1
 subst e1
 exact h A1 c1 w1 o1 b1 g1
end
end Go.Proofs.YtcgdloldkcmhnaaGreat.H
end
section
namespace Go.Proofs.YtcgdloldkcmhnaaGreat.H
open Go Go.RowKit Go.Proofs.YtcgdloldkcmhnaaGreat.PrintC Go.Proofs.YtcgdloldkcmhnaaGreat.PrintE Go.Proofs.YtcgdloldkcmhnaaGreatW.PrintWords Go.Proofs.YtcgdloldkcmhnaaGreatW.PrintLast Go.Proofs.YtcgdloldkcmhnaaGreatW.PrintMore
set_option linter.unusedVariables false
set_option linter.unusedSimpArgs false
theorem pairRow : (132 : TypeId) < Tryz.prog.types.size := of_decide_eq_true (by kernel_rfl)
theorem pairWide : (match Tryz.prog.underlying 132 with | some (.array _ _) | some (.struct _) => true | _ => false) = true := by rw [Tryz.underlying132]
theorem pairKeyType : Tryz.prog.keyTypeAt 2 132 = true := by kernel_rfl
set_option maxRecDepth 100000 in
theorem pairLaw : Maps.Keyed Tryz.prog 132 := Maps.Keyed.of_law (deep_law_laid slotLaid (m := 2) (by omega) pairRow pairKeyType pairWide)
theorem pairKeyOf (a b : Int) (ha : (Lit.int .i64 a).wf = true) (hb : (Lit.int .i64 b).wf = true) : keyOf Tryz.prog 132 (.agg #[.int .i64 a, .int .i64 b]) = some (slotKey a b) := by
 have h1 : Tryz.prog.keyType 132 = true := by kernel_rfl
 have h2 : (Value.agg #[.int .i64 a, .int .i64 b]).formed Tryz.prog 132 = true := by
  simp [Value.formed, Tryz.underlying132, show Tryz.prog.cellsOf 132 = 2 by kernel_rfl]
 unfold keyOf
 rw [Tryz.underlying132]
 simp only [h1, h2, Bool.and_self, if_true, Value.cells]
 obtain ⟨m, hm⟩ : ∃ m, Tryz.prog.types.size = m + 1 := Nat.exists_eq_succ_of_ne_zero (Nat.ne_of_gt (Nat.lt_of_le_of_lt (Nat.zero_le _) pairRow))
 rw [hm]
 have e1 : ∀ x : Int, (Lit.int .i64 x).wf = true → Tryz.prog.keyLits (m + 1) 3 [.int .i64 x] = some [.int .i64 x] := fun x hx => by
  simp [Program.keyLits, Tryz.underlying3, hx]
 have e2 : Tryz.prog.keyLits (m + 1 + 1) 132 [.int .i64 a, .int .i64 b] = some [.int .i64 a, .int .i64 b] := by
  unfold Program.keyLits
  simp [Tryz.underlying132, show Tryz.prog.cellsOf 132 = 2 by kernel_rfl, show Tryz.prog.cellsOf 3 = 1 by kernel_rfl]
  refine ⟨[[.int .i64 a], [.int .i64 b]], ?_, rfl⟩
  rw [show List.range 2 = [0, 1] from rfl]
  simp [e1 a ha, e1 b hb]
 have e3 : (#[Value.int .i64 a, Value.int .i64 b].flatMap Value.cells).toList = [.int .i64 a, .int .i64 b] := by simp [Value.cells]
 simp [e2, slotKey]
set_option maxRecDepth 100000 in
theorem key_walk (x : Mv) (w : World) : Calls Tryz.prog 71 #[.agg #[.int .i64 x.f0, .int .i64 x.f1, .int .i64 x.f2]] w fun e w' => e = .returned (.agg #[.int .i64 x.f0, .int .i64 x.f1]) ∧ Below w.heap.size w w' := by
 have hu := Tryz.underlying132
 go_enter Tryz.func71, Tryz.ntmps71
 go_wp2
 refine bodyPost_ret (results_cell_row rfl _ _ (w.heap.size + 1) 132 #[.int .i64 x.f0, .int .i64 x.f1] (0, 0) _ rfl (alloc_at (by simp)) hu rfl (by kernel_rfl)) rfl ?_
 exact ⟨rfl, below_alloc (below_alloc (Below.refl _ _) _) _⟩
theorem num_walk (x : Mv) (w : World) : Calls Tryz.prog 73 #[.agg #[.int .i64 x.f0, .int .i64 x.f1, .int .i64 x.f2]] w fun e w' => e = .returned (.int .i64 x.f2) ∧ Below w.heap.size w w' := by
 go_enter Tryz.func73, Tryz.ntmps73
 go_wp2
 go_ret
 exact ⟨rfl, below_alloc (Below.refl _ _) _⟩
structure GtI (w0 : World) (mb kn : Nat) (D : DataW Unit) (Ao : Option Addr) (co : Nat) (rows : List (List Int)) (W : World) : Prop where
 tab : Kd.S kInts 68 W w0.heap.size (fun _ => True) (.slice Ao rows.length co) rows
 mp : MapAs W 132 mb kn D
 mbl : w0.heap.size ≤ mb
 low : Below w0.heap.size w0 W
section
variable {w0 : World} {mb kn : Nat} {D : DataW Unit} {Ao : Option Addr} {co : Nat} {rows : List (List Int)} {W W1 : World}
theorem GtI.below (h : GtI w0 mb kn D Ao co rows W) (hb : Below W.heap.size W W1) : GtI w0 mb kn D Ao co rows W1 :=
 ⟨Kd.S_below h.tab hb, mapAs_eq h.mp (hb.block _ h.mp.lt), h.mbl, below_step h.low hb⟩
theorem GtI.put {kl : Lit} {d : DataW Unit} (h : GtI w0 mb kn D Ao co rows W) (ho : MapAs W1 132 mb (kn + 1) (D.put kl d)) (hg : W.grownBy W1 (some mb)) : GtI w0 mb (kn + 1) (D.put kl d) Ao co rows W1 := by
 have hne : ∀ {g : Nat}, g ≠ mb → g < W.heap.size → W1.heap[g]? = W.heap[g]? := fun {g} hn hlt => hg.block g hlt (fun e => hn (by injection e))
 refine ⟨?_, ho, h.mbl, ?_⟩
 ·refine Kd.S_mono (Kd.S_step (Kd.S_bound h.tab) (fun k hk hlt => hne ?_ hlt)) (fun _ _ => trivial)
  obtain ⟨-, -, -, q, -, cs, hcs⟩ := hk
  exact fun e => mapAs_ne h.mp hcs e.symm
 ·have h9 := h.mbl
  exact ⟨hg.os.trans h.low.os, hg.tape.trans h.low.tape, hg.output.trans h.low.output, Nat.le_trans h.low.size hg.size, fun k hlt => (hne (by omega) (by have := h.low.size; omega)).trans (h.low.block k hlt)⟩
theorem GtI.more {v1 : Value} (h : GtI w0 mb kn D Ao co rows W) (h1 : Below W.heap.size W W1) {w1 : World} (hs : Kd.S kInts 68 w1 w0.heap.size (fun _ => True) v1 (rows ++ [[]])) (hb : Below w0.heap.size w0 w1) (hg : W1.grownBy w1 (Value.slice Ao rows.length co).ownBlock) :
  ∃ A1 c1, v1 = .slice A1 (rows.length + 1) c1 ∧ GtI w0 mb kn D A1 c1 (rows ++ [[]]) w1 := by
 obtain ⟨A1, c1, rfl⟩ := Kd.R_slice (Kd.S_R hs)
 have hl : (rows ++ [([] : List Int)]).length = rows.length + 1 := by simp
 have h2 := h.below h1
 have hm : MapAs w1 132 mb kn D := h2.mp.kept hg (fun e => by
  obtain ⟨cs, hcs⟩ := Kd.R_typed (Kd.S_R h2.tab) mb e.symm
  exact mapAs_ne h2.mp hcs rfl)
 exact ⟨A1, c1, by rw [hl], hs, hm, h.mbl, hb⟩
structure GtO (w0 : World) (g i : Nat) (co : Nat) (rows : List (List Int)) (row : List Int) (W : World) (A : Option Addr) (c : Nat) (oki : Nat → Prop) : Prop where
 at_ : W.cell? ⟨g, i, none⟩ = some (.slice A row.length c)
 free : W.frozen? ⟨g, i, none⟩ = false
 cont : Kd.R (Kd.int .i64) 3 W w0.heap.size oki (.slice A row.length c) row
 rest : Kd.H kInts 68 W w0.heap.size (fun _ => True) (.slice (some ⟨g, 0, none⟩) rows.length co) rows i oki [.slice A row.length c]
theorem GtI.form (h : GtI w0 mb kn D Ao co rows W) (hp : 0 < rows.length) : ∃ g, Ao = some ⟨g, 0, none⟩ := by
 obtain ⟨g, cap, e, _⟩ := Kd.S_form h.tab hp
 injection e with e1
 exact ⟨g, e1⟩
theorem GtI.open_ {g : Nat} (h : GtI w0 mb kn D (some ⟨g, 0, none⟩) co rows W) {i : Nat} {row : List Int} (hr : rows[i]? = some row) : ∃ A c oki, GtO w0 g i co rows row W A c oki := by
 have hi : i < rows.length := (List.getElem?_eq_some_iff.1 hr).1
 obtain ⟨oki, ce, hl, hM, hcc, hfr, hok, hH⟩ := Kd.S_elem h.tab [] (i : Int) (by omega) (by omega)
 obtain ⟨v, rfl, hR⟩ := hM
 have hv := hcc 0 _ rfl
 have hf := hfr 0
 simp only [Nat.add_zero, Int.toNat_natCast, show kInts.sz = 1 from rfl, Nat.mul_one] at hv hf hR hH
 rw [List.getD_eq_getElem?_getD, hr] at hR
 obtain ⟨A, c, rfl⟩ := Kd.R_slice hR
 exact ⟨A, c, oki, hv, hf, hR, hH⟩
theorem GtO.moved {g i : Nat} {row : List Int} {A : Option Addr} {c : Nat} {oki : Nat → Prop} (h : GtO w0 g i co rows row W A c oki) (hb : Below W.heap.size W W1) : GtO w0 g i co rows row W1 A c oki :=
 ⟨pw_cell_below hb h.at_, by
  have hl := World.block_lt_of_cell? W _ h.at_
  have := h.free
  simp only [World.frozen?] at this ⊢
  rw [hb.block g hl]
  exact this, Kd.R_below h.cont hb, Kd.H_below h.rest hb⟩
theorem GtO.spot {g i : Nat} {row : List Int} {A : Option Addr} {c : Nat} {oki : Nat → Prop} {w1 : World} (h : GtO w0 g i co rows row W A c oki) (hi : i < rows.length) (hg : W.grownBy w1 (Value.slice A row.length c).ownBlock) :
  w1.cell? ⟨g, i, none⟩ = some (.slice A row.length c) ∧ w1.frozen? ⟨g, i, none⟩ = false := by
 have hH := Kd.H_grown (Kd.H_widen h.rest) hg (fun k e => .inl (h.cont.1 k e))
 obtain ⟨_, _, hraw, _, _, hcc, _⟩ := Kd.H_raw hH (by omega : (0 : Int) ≤ (i : Int)) (by omega)
 obtain ⟨cs, hcs⟩ := Kd.R_typed hraw g (by simp [Value.ownBlock])
 refine ⟨?_, blk_frozen hcs i⟩
 have := hcc 0 _ rfl
 rw [show kInts.sz = 1 from rfl, Nat.mul_one, Nat.add_zero, Int.toNat_natCast] at this
 exact this
theorem GtI.close {g i : Nat} {row x' : List Int} {A : Option Addr} {c : Nat} {oki : Nat → Prop} {v1 : Value} {w1 : World} (h : GtI w0 mb kn D (some ⟨g, 0, none⟩) co rows W) (hi : i < rows.length) (ho : GtO w0 g i co rows row W A c oki) (hg : W.grownBy w1 (Value.slice A row.length c).ownBlock) (hb : Below w0.heap.size w0 w1)
  (hR : Kd.R (Kd.int .i64) 3 w1 w0.heap.size (fun k => oki k ∨ True ∧ W.heap.size ≤ k) v1 x') : GtI w0 mb kn D (some ⟨g, 0, none⟩) co (rows.set i x') (w1.setCell ⟨g, i, none⟩ v1) := by
 have hH := Kd.H_grown (Kd.H_widen ho.rest) hg (fun k e => .inl (ho.cont.1 k e))
 have h0 : (0 : Int) ≤ (i : Int) := by omega
 have h1 : (i : Int) < (rows.length : Int) := by omega
 obtain ⟨_, _, hraw, _, _, hcc, _⟩ := Kd.H_raw hH h0 h1
 have hS := Kd.S_seg0 hH h0 h1 (seg := [v1]) (j := 0) (show 1 ≤ 1 from by decide) (x' := x') (Kd.M_row hR) (fun _ hk => hk)
 have e1 : w1.setCells g ((i : Int).toNat * kInts.sz + 0) [v1] = w1.setCell ⟨g, i, none⟩ v1 := by
  rw [show kInts.sz = 1 from rfl, Nat.mul_one, Nat.add_zero, Int.toNat_natCast]
  rfl
 rw [e1, Int.toNat_natCast] at hS
 have hgl : w0.heap.size ≤ g := Kd.S_base h.tab g (by simp [Value.ownBlock])
 have m1 : MapAs w1 132 mb kn D := h.mp.kept hg (fun e => by
  obtain ⟨cs, hcs⟩ := Kd.R_typed ho.cont mb e.symm
  exact mapAs_ne h.mp hcs rfl)
 have m2 : MapAs (w1.setCell ⟨g, i, none⟩ v1) 132 mb kn D := m1.kept hS.2 (fun e => by
  obtain ⟨cs, hcs⟩ := Kd.R_typed hraw g (by simp [Value.ownBlock])
  injection e with e
  exact mapAs_ne m1 hcs e)
 have hl : (rows.set i x').length = rows.length := List.length_set ..
 exact ⟨by rw [hl]; exact hS.1, m2, h.mbl, below_set hb hgl⟩
end
theorem infoRow : (Tryz.prog.info? 68).map (fun i => (i.zero, i.size, i.bytes)) = some (some (.slice none 0 0), 1, 24) := by kernel_rfl
theorem gt_start (w : World) : GtI w (w.heap.size + 1) 0 (.map []) (some ⟨w.heap.size, 0, none⟩) 0 [] ((w.alloc (.cells #[] 68)).alloc (.map #[] 0)) := by
 refine ⟨?_, ?_, by omega, below_alloc (below_alloc (Below.refl _ _) _) _⟩
 ·have h1 : (w.alloc (.cells #[] 68)).heap[w.heap.size]? = some (.cells #[] 68 (0, 0)) := heap_alloc_new _ _
  exact Kd.S_below (Kd.S_bare ⟨fun _ _ => trivial, [], ⟨rfl, .inr ⟨w.heap.size, 0, #[], rfl, Nat.le_refl _, h1, Nat.le_refl _, by decide, rfl, rfl⟩⟩, ⟨rfl, fun j p hj => by simp at hj⟩⟩) (below_alloc (Below.refl _ _) _)
 ·have := World.ownsMap_made (H := Unit) (w.alloc (.cells #[] 68)) Tryz.prog 132 (plainElem Tryz.prog 3)
  rw [alloc_size] at this
  exact this
def rowsOf (l hs : List Mv) : List (List Int) := hs.map (gIdx l l.length)
def GatherAt (l : List Mv) (w : World) (e : Ending) (w' : World) : Prop := Below w.heap.size w w' ∧ ∃ (hs : List Mv) (D : DataW Unit) (A1 : Option Addr) (c1 : Nat), e = .returned (.slice A1 hs.length c1) ∧ Kd.S kInts 68 w' w.heap.size (fun _ => True) (.slice A1 hs.length c1) (rowsOf l hs) ∧ GaI l l.length hs D ∧ hs.length ≤ l.length
set_option maxHeartbeats 8000000 in
set_option maxRecDepth 100000 in
theorem gather_walk (A : Option Addr) (c : Nat) (l : List Mv) (w : World) (hr : Kd.C kMv w A l.length l) (hw : ∀ x, x ∈ l → WfM x) (hl : l.length ≤ 100000) :
  Calls Tryz.prog 70 #[.slice A l.length c, .func (.func 71) #[] #[]] w (GatherAt l w) := by
 have HR := Lib.hid hr
 have HW := Lib.hid hw
 have hu := Tryz.underlying76
 have hu2 := Tryz.underlying132
 have hmm := @run_makeMap Tryz.prog
 clear hr hw
 go_enter Tryz.func70, Tryz.ntmps70
 go_wp2
 have HX := Lib.hid (gt_start w)
 generalize (w.alloc (.cells #[] 68)).alloc (.map #[] 0) = ws at HX ⊢
 go_loopg [5, 16] (l.length + 1) (fun k ov iv W => ∃ (i : Nat) (hs : List Mv) (D : DataW Unit) (kn : Nat) (Ao : Option Addr) (co : Nat), i ≤ l.length ∧ ov = .slice Ao hs.length co ∧ iv = .int .i64 i ∧ k = l.length + 1 - i ∧ Hid (GtI w (w.heap.size + 1) kn D Ao co (hs.map (gIdx l i)) W ∧ GaI l i hs D ∧ hs.length ≤ i ∧ kn ≤ i))
 case atStart => exact ⟨0, [], .map [], 0, _, _, Nat.zero_le _, rfl, rfl, rfl, Lib.hid ⟨HX.out, GaI.zero l, Nat.le_refl _, Nat.le_refl _⟩⟩
 case round =>
  obtain ⟨i, hs, D, kn, Ao, co, hi, rfl, rfl, rfl, HL⟩ := hrel
  clear HX hmm
  by_cases hlt : i < l.length
  ·have i0 : (0 : Int) ≤ (i : Int) := by omega
   have i1 : (i : Int) < (l.length : Int) := by omega
   obtain ⟨ad, ea, y0, y1, y2⟩ := at_T76 (Kd.C_below HR.out HL.out.1.low) (i : Int) i0 i1
   subst ea
   obtain ⟨X, hX⟩ : ∃ X, X = mvAt l i := ⟨_, rfl⟩
   have hX2 : rd_T76 l (i : Int) = X := by rw [hX]; rfl
   rw [Int.toNat_natCast, hX2] at y0 y1 y2
   have HXE := Lib.hid hX
   have HXW : Hid (WfM X) := Lib.hid (HW.out X (by rw [hX]; exact mvAt_mem hlt))
   have HKO := Lib.hid (pairKeyOf X.f0 X.f1 HXW.out.1 HXW.out.2)
   have HLN := Lib.hid (And.intro hl (And.intro HL.out.2.2.1 HL.out.2.2.2))
   clear hX hX2
   cases hn : hs.any (fun y => sameK y X) with
   |true =>
    obtain ⟨y, hy, hyx⟩ := List.any_eq_true.1 hn
    obtain ⟨j, hj⟩ := List.getElem?_of_mem hy
    have hjl : j < hs.length := (List.getElem?_eq_some_iff.1 hj).1
    have HY := Lib.hid (And.intro hj (And.intro hyx hn))
    have HHS : Hid (Maps.has D (slotKey X.f0 X.f1) = true) := Lib.hid (by rw [HL.out.2.1.has X HXW.out, hn])
    have HAT : Hid (D.atKey (slotKey X.f0 X.f1) (.lit (.int .i64 0)) = .lit (.int .i64 j)) := Lib.hid (by
     have := HL.out.2.1.atK j y hj
     rw [(sameK_iff.1 hyx).1, (sameK_iff.1 hyx).2] at this
     exact this)
    clear hy hyx hj hn
    have j0 : (0 : Int) ≤ (j : Int) := by omega
    have j1 : (j : Int) < (hs.length : Int) := by omega
    have hjm : j < (hs.map (gIdx l i)).length := by rw [List.length_map]; exact hjl
    obtain ⟨g, rfl⟩ := HL.out.1.form (Nat.lt_of_le_of_lt (Nat.zero_le _) hjm)
    have HJM := Lib.hid hjm
    obtain ⟨row, hrow⟩ : ∃ row, row = gIdx l i y := ⟨_, rfl⟩
    have HROW : Hid (row = gIdx l i y ∧ (hs.map (gIdx l i))[j]? = some row ∧ row.length ≤ i) := Lib.hid ⟨hrow, by rw [List.getElem?_map, HY.out.1, hrow]; rfl, by rw [hrow]; exact gIdx_len l i y⟩
    obtain ⟨Ar, cr, oki, hop⟩ := HL.out.1.open_ HROW.out.2.1
    have HOP := Lib.hid hop
    clear hop hrow hjm
    have HLE : Hid ((row.length + 1) * 8 ≤ 140737488355328) := Lib.hid (by have := HROW.out.2.2; have := HLN.out.1; omega)
    go_wp2_with (first
     |(go_at_call 71; (with_reducible refine (key_walk X _).mono ?_); rintro e w1 ⟨rfl, hb⟩; have HI1 := Lib.hid ((HL.out.1.below (below_alloc (Below.refl _ _) (.cells #[.int .i64 X.f0, .int .i64 X.f1, .int .i64 X.f2] 76))).below hb); have HOP1 := Lib.hid ((HOP.out.moved (below_alloc (Below.refl _ _) (.cells #[.int .i64 X.f0, .int .i64 X.f1, .int .i64 X.f2] 76))).moved hb); clear hb)
     |(at_lookup; refine wpList_lookup_own_ok_int _ rfl _ _ 154 rfl 132 3 .i64 pairLaw Tryz.underlying154 Tryz.underlying3 (Tryz.zeroValue3 _) (w.heap.size + 1) kn D rfl (HI1.out.below (below_alloc (Below.refl _ _) _)).mp (.agg #[.int .i64 X.f0, .int .i64 X.f1]) (slotKey X.f0 X.f1) (by first | rfl | simp) HKO.out ?_; intro cc hcc hwc; rw [HHS.out]; obtain rfl : cc = (j : Int) := (by have h9 := hcc; rw [HAT.out] at h9; injection h9 with h9; injection h9 with _ h9; exact h9.symm); have HI2 := Lib.hid (HI1.out.below (below_alloc (Below.refl _ _) (.cells #[.int .i64 X.f0, .int .i64 X.f1] 132))); have HOP2 := Lib.hid (HOP1.out.moved (below_alloc (Below.refl _ _) (.cells #[.int .i64 X.f0, .int .i64 X.f1] 132))); generalize w1.alloc (.cells #[.int .i64 X.f0, .int .i64 X.f1] 132) = w2 at HI2 HOP2 ⊢; have hat0 := HOP2.out.at_; clear hcc hwc)
     |((with_reducible refine gate_dst (N := 48) rfl ?_); go_loud (refine Kd.R_append (Kd.int .i64) (w0 := w) w.heap.size rfl (.tmp 45) (.tmp 47) 68 3 (.int .i64 0) 8 rfl Tryz.underlying68 infoNum rfl (by decide) (by decide) (.slice Ar row.length cr) row (i : Int) [.int .i64 (i : Int)] (fun k => oki k ∨ True ∧ w2.heap.size ≤ k) (fun _ => False) rfl rfl ?aP (fun _ hk => hk.elim) ?aF ?aO ?aB ?aS ?aL ?_; (case aP => exact rfl); (case aF => exact fun _ hk => .inr ⟨trivial, hk⟩); (case aO => exact Kd.R_mono HOP2.out.cont (fun _ hk => .inl hk)); (case aB => exact HI2.out.low); (case aS => exact HI2.out.low.size); (case aL => exact HLE.out); intro v1 w9 ho hb hg hat; obtain ⟨A9, c9, rfl⟩ := Kd.R_slice ho; rw [show (row ++ [(i : Int)]).length = row.length + 1 by simp] at ho ⊢; obtain ⟨zc, zf⟩ := HOP2.out.spot HJM.out hg; have HF := Lib.hid (HI2.out.close HJM.out HOP2.out hg hb ho); clear ho hb hg hat)))
    go_roundg (l.length - i)
    case measure => omega
    case rel => exact ⟨i + 1, hs, D, kn, _, _, by omega, rfl, by go_num, by omega, Lib.hid (by
     have h9 := HL.out.2.1.had HY.out.1 (by rw [← HXE.out]; exact HY.out.2.1)
     have h8 := HF.out
     have h7 := h9.2
     rw [← HROW.out.1] at h7
     rw [h7] at h8
     exact ⟨h8, h9.1, by have := HLN.out; omega, by have := HLN.out; omega⟩)⟩
   |false =>
    have HN := Lib.hid hn
    have HHS : Hid (Maps.has D (slotKey X.f0 X.f1) = false) := Lib.hid (by rw [HL.out.2.1.has X HXW.out, hn])
    clear hn
    obtain ⟨h, hh⟩ : ∃ h, hs.length = h := ⟨_, rfl⟩
    have HHL : Hid (hs.length = h ∧ (hs.map (gIdx l i)).length = h) := Lib.hid ⟨hh, by rw [List.length_map, hh]⟩
    have h1 : h ≤ 100000 := by have := HLN.out; omega
    have HWF : Hid ((Lit.int .i64 (h : Int)).wf = true) := Lib.hid (small_wf (by omega) (by omega))
    rw [hh]
    clear hh
    go_wp2_with (first
     |(go_at_call 71; (with_reducible refine (key_walk X _).mono ?_); rintro e w1 ⟨rfl, hb⟩; have HI1 := Lib.hid ((HL.out.1.below (below_alloc (Below.refl _ _) (.cells #[.int .i64 X.f0, .int .i64 X.f1, .int .i64 X.f2] 76))).below hb); clear hb)
     |(at_lookup; refine wpList_lookup_own_ok_int _ rfl _ _ 154 rfl 132 3 .i64 pairLaw Tryz.underlying154 Tryz.underlying3 (Tryz.zeroValue3 _) (w.heap.size + 1) kn D rfl (HI1.out.below (below_alloc (Below.refl _ _) _)).mp (.agg #[.int .i64 X.f0, .int .i64 X.f1]) (slotKey X.f0 X.f1) (by first | rfl | simp) HKO.out ?_; intro cc hcc hwc; rw [HHS.out]; have HIM := Lib.hid (HI1.out.below (below_alloc (Below.refl _ _) (.cells #[.int .i64 X.f0, .int .i64 X.f1] 132))); have k0 : (w1.alloc (.cells #[.int .i64 X.f0, .int .i64 X.f1] 132)).cell? ⟨w1.heap.size, 0, none⟩ = some (.int .i64 X.f0) := (by simp); have k1 : (w1.alloc (.cells #[.int .i64 X.f0, .int .i64 X.f1] 132)).cell? ⟨w1.heap.size, 1, none⟩ = some (.int .i64 X.f1) := (by simp); generalize w1.alloc (.cells #[.int .i64 X.f0, .int .i64 X.f1] 132) = wm at HIM k0 k1 ⊢; clear hcc hwc)
     |(at_mapUpdate; refine wpList_mapUpdate_own _ rfl _ _ _ 154 rfl 132 3 pairLaw Tryz.underlying154 _ (w.heap.size + 1) kn D rfl HIM.out.mp (by have := HLN.out; unfold maxLen; omega) (.agg #[.int .i64 X.f0, .int .i64 X.f1]) (.int .i64 (h : Int)) (slotKey X.f0 X.f1) (by first | rfl | simp) rfl HKO.out _ [] (plainElem_int Tryz.underlying3 HWF.out) ?_; intro w2 ho hg; have HI2 := Lib.hid (HIM.out.put ho hg); clear ho hg)
     |((with_reducible refine gate_dst (N := 39) rfl ?_); go_loud (refine Kd.S_append kInts (w0 := w) w.heap.size rfl (.tmp 37) (.tmp 38) 90 68 (.slice none 0 0) 24 rfl Tryz.underlying90 infoRow rfl (by decide) (by decide) (.slice Ao h co) (hs.map (gIdx l i)) [] [.slice none 0 0] (fun _ => True) (fun _ => False) rfl rfl ?aP (fun _ hk => hk.elim) ?aF ?aO ?aB ?aS ?aL ?_; (case aP => exact ⟨_, rfl, Kd.R_nil _ _ _ _ _⟩); (case aF => exact fun _ _ => trivial); (case aO => have h9 := HI2.out.tab; rw [HHL.out.2] at h9; exact Kd.S_mono h9 (fun _ _ => ⟨trivial, fun e => e⟩)); (case aB => exact HI2.out.low); (case aS => exact HI2.out.low.size); (case aL => rw [HHL.out.2]; exact Nat.le_trans (Nat.mul_le_mul_right 24 (Nat.succ_le_succ h1)) (by decide)); intro v1 w3 ho hb hg hat; rw [← HHL.out.2] at hg; obtain ⟨A1, c1, rfl, hI3⟩ := HI2.out.more (Below.refl _ _) ho hb hg; rw [HHL.out.2]; have hjm : h < (hs.map (gIdx l i) ++ [([] : List Int)]).length := (by rw [List.length_append, HHL.out.2]; exact Nat.lt_succ_self h); obtain ⟨g, rfl⟩ := hI3.form (Nat.lt_of_le_of_lt (Nat.zero_le _) hjm); have HI3 := Lib.hid hI3; have HJM := Lib.hid hjm; obtain ⟨Ar, cr, oki, hop⟩ := hI3.open_ (i := h) (row := []) (by rw [List.getElem?_append_right (by rw [HHL.out.2]; exact Nat.le_refl _), HHL.out.2, Nat.sub_self]; rfl); have HOP := Lib.hid hop; have hat0 : w3.cell? ⟨g, h, none⟩ = some (.slice Ar 0 cr) := hop.at_; have j0 : (0 : Int) ≤ (h : Int) := (by omega); have j1 : (h : Int) < ((h + 1 : Nat) : Int) := (by omega); clear ho hb hg hat hop hI3 hjm))
     |((with_reducible refine gate_dst (N := 48) rfl ?_); go_loud (refine Kd.R_append (Kd.int .i64) (w0 := w) w.heap.size rfl (.tmp 45) (.tmp 47) 68 3 (.int .i64 0) 8 rfl Tryz.underlying68 infoNum rfl (by decide) (by decide) (.slice Ar 0 cr) ([] : List Int) (i : Int) [.int .i64 (i : Int)] (fun k => oki k ∨ True ∧ w3.heap.size ≤ k) (fun _ => False) rfl rfl ?aP (fun _ hk => hk.elim) ?aF ?aO ?aB ?aS ?aL ?_; (case aP => exact rfl); (case aF => exact fun _ hk => .inr ⟨trivial, hk⟩); (case aO => exact Kd.R_mono HOP.out.cont (fun _ hk => .inl hk)); (case aB => exact HI3.out.low); (case aS => exact HI3.out.low.size); (case aL => exact (by decide)); intro v1 w9 ho hb hg hat; obtain ⟨A9, c9, rfl⟩ := Kd.R_slice ho; rw [show (([] : List Int) ++ [(i : Int)]).length = 0 + 1 by simp] at ho ⊢; obtain ⟨zc, zf⟩ := HOP.out.spot HJM.out hg; have HF := Lib.hid (HI3.out.close HJM.out HOP.out hg hb ho); clear ho hb hg hat)))
    go_roundg (l.length - i)
    case measure => omega
    case rel => exact ⟨i + 1, hs ++ [X], D.put (slotKey X.f0 X.f1) (.lit (.int .i64 (h : Int))), kn + 1, _, _, by omega, by rw [List.length_append, HHL.out.1]; rfl, by go_num, by omega, Lib.hid (by
     have h9 := HL.out.2.1.put (by rw [← HXE.out]; exact HXW.out) (fun y hy => by
      obtain ⟨k, hk, e⟩ := HL.out.2.1.mem y hy
      rw [e]
      exact HW.out _ (mvAt_mem (by omega))) (by rw [← HXE.out]; exact HN.out)
     rw [← HXE.out, HHL.out.1] at h9
     have h8 := HF.out
     rw [h9.2] at h8
     exact ⟨h8, h9.1, by rw [List.length_append, HHL.out.1]; have := HLN.out; have := HHL.out.1; simp; omega, by have := HLN.out; omega⟩)⟩
  ·have e : i = l.length := by omega
   subst e
   go_wp2
   go_ret
   exact ⟨HL.out.1.low, hs, D, _, _, rfl, by have h9 := HL.out.1.tab; rw [List.length_map] at h9; exact h9, HL.out.2.1, HL.out.2.2.1⟩
end Go.Proofs.YtcgdloldkcmhnaaGreat.H
end
section
namespace Go.Proofs.YtcgdloldkcmhnaaGreat.H
open Go Go.RowKit Go.Proofs.YtcgdloldkcmhnaaGreat.PrintC Go.Proofs.YtcgdloldkcmhnaaGreatW.PrintWords Go.Proofs.YtcgdloldkcmhnaaGreatW.PrintLast Go.Proofs.YtcgdloldkcmhnaaGreatW.PrintMore
set_option linter.unusedVariables false
set_option linter.unusedSimpArgs false
theorem add64_run (x y c : Int) (hx : 0 ≤ x) (hy : 0 ≤ y) (hc0 : 0 ≤ c) (hc : c ≤ 1) (w : World) : (callFunc 100 #[.int .u64 x, .int .u64 y, .int .u64 c]).run Tryz.prog w = .ok (.value (.tuple #[.int .u64 ((x + y + c) % 18446744073709551616), .int .u64 ((x + y + c) / 18446744073709551616)])) w := by
 rw [run_callFunc_extern Tryz.func100 (by kernel_rfl) (by kernel_rfl) (by kernel_rfl) (e := add64Entry) (by kernel_rfl), run_add64 x y c hx hy hc0 hc]
 rfl
theorem half_step {x : Int} (hx : -9223372036854775808 ≤ x ∧ x ≤ 9223372036854775807) {L : Int} (h0 : 0 ≤ L) (h1 : L < 18446744073709551616) :
  ∃ U C s L2 : Int, IntKind.u64.wrap x = U ∧ 0 ≤ U ∧ x / 9223372036854775808 = s ∧ -1 ≤ s ∧ s ≤ 0 ∧ (L + U + 0) % 18446744073709551616 = L2 ∧ (L + U + 0) / 18446744073709551616 = C ∧ 0 ≤ C ∧ C ≤ 1 ∧ 0 ≤ L2 ∧ L2 < 18446744073709551616 ∧ (s + C) * 18446744073709551616 + L2 = L + x := by
 have e2 : IntKind.u64.wrap x = x % 18446744073709551616 := by
  simp [IntKind.wrap, IntKind.bits, IntKind.signed]
 rw [e2]
 refine ⟨_, _, _, _, rfl, ?_, rfl, ?_, ?_, rfl, rfl, ?_, ?_, ?_, ?_, ?_⟩ <;> omega
set_option maxHeartbeats 4000000 in
set_option maxRecDepth 100000 in
theorem csum_walk (A : Option Addr) (c : Nat) (l : List Int) (w : World) (hr : Kd.C (Kd.int .i64) w A l.length l) (hi : I64s l) (hl : l.length ≤ 1000000) :
  Calls Tryz.prog 90 #[.slice A l.length c] w (SumAt l w) := by
 have HR := Lib.hid hr
 have HI := Lib.hid hi
 clear hr hi
 go_enter Tryz.func90, Tryz.ntmps90
 go_wp2
 go_loopg [4, 5, 11] (l.length + 1) (fun k hv lv iv W => ∃ (i : Nat) (H L : Int), i ≤ l.length ∧ hv = .int .i64 H ∧ lv = .int .u64 L ∧ iv = .int .i64 i ∧ k = l.length + 1 - i ∧ Hid (H * 18446744073709551616 + L = sumL (l.take i) ∧ 0 ≤ L ∧ L < 18446744073709551616 ∧ -(i : Int) ≤ H ∧ H ≤ i ∧ Below w.heap.size w W))
 case atStart => exact ⟨0, 0, 0, Nat.zero_le _, rfl, rfl, rfl, rfl, Lib.hid ⟨rfl, by decide, by decide, by decide, by decide, Below.refl _ _⟩⟩
 case round =>
  obtain ⟨i, H, L, hi, rfl, rfl, rfl, rfl, HS⟩ := hrel
  by_cases hlt : i < l.length
  ·have i0 : (0 : Int) ≤ (i : Int) := by omega
   have i1 : (i : Int) < (l.length : Int) := by omega
   obtain ⟨ae, eb, z0⟩ := Kd.at_int (Kd.C_below HR.out HS.out.2.2.2.2.2) (i : Int) i0 i1
   subst eb
   rw [Int.toNat_natCast] at z0
   have hx := rd_i64 HI.out hlt
   have HT := Lib.hid (take_snoc hlt)
   obtain ⟨x, hxe⟩ : ∃ x, x = rd l (i : Int) := ⟨_, rfl⟩
   rw [← hxe] at z0 hx
   have HXE := Lib.hid hxe
   clear hxe
   obtain ⟨U, C, s, L2, e1, u0, e2, s0, s1, e3, e4, c0, c1, l0, l1, he⟩ := half_step hx HS.out.2.1 HS.out.2.2.1
   have hadd : ∀ W : World, (callFunc 100 #[.int .u64 L, .int .u64 U, .int .u64 0]).run Tryz.prog W = .ok (.value (.tuple #[.int .u64 L2, .int .u64 C])) W := fun W => by
    rw [add64_run L U 0 HS.out.2.1 u0 (by decide) (by decide), e3, e4]
   have e5 : IntKind.i64.wrap C = C := IntWalk.i64_in _ (by omega)
   have e6 : wrap64 (s + C) = s + C := by unfold wrap64; omega
   have e7 : wrap64 (H + (s + C)) = H + (s + C) := by have := HS.out.2.2.2; unfold wrap64; omega
   have HE := Lib.hid (And.intro he (And.intro (And.intro l0 l1) (And.intro (And.intro s0 s1) (And.intro c0 c1))))
   clear e3 e4 u0 s0 s1 c0 c1 l0 l1 he hx
   go_wp2
   go_roundg (l.length - i)
   case measure => omega
   case rel => exact ⟨i + 1, H + (s + C), L2, by omega, (by rw [e7]), rfl, by go_num, by omega, Lib.hid ⟨by rw [HT.out, sumL_snoc, ← HXE.out]; have := HE.out.1; have := HS.out.1; omega, HE.out.2.1.1, HE.out.2.1.2, by have := HE.out.2; have := HS.out.2.2.2; omega, by have := HE.out.2; have := HS.out.2.2.2; omega, HS.out.2.2.2.2.2⟩⟩
  ·have e : i = l.length := by omega
   subst e
   have hs := HS.out.1
   rw [List.take_length] at hs
   obtain ⟨T, hT⟩ : ∃ T, T = sumL l := ⟨_, rfl⟩
   rw [← hT] at hs
   have HTE := Lib.hid hT
   clear hT
   have l0 := HS.out.2.1
   have l1 := HS.out.2.2.1
   obtain ⟨Z, hZ, z0⟩ : ∃ Z : Int, IntKind.i64.wrap L = Z ∧ ((L < 9223372036854775808 ∧ Z = L) ∨ (9223372036854775808 ≤ L ∧ Z = L - 18446744073709551616)) := by
    refine ⟨_, rfl, ?_⟩
    by_cases c : L < 9223372036854775808
    ·exact .inl ⟨c, IntWalk.i64_in _ (by omega)⟩
    ·refine .inr ⟨by omega, ?_⟩
     rw [IntWalk.i64_left]
     unfold wrap64
     omega
   obtain ⟨g, hg, g0⟩ : ∃ g : Int, Z / 9223372036854775808 = g ∧ ((L < 9223372036854775808 ∧ g = 0) ∨ (9223372036854775808 ≤ L ∧ g = -1)) := by
    refine ⟨_, rfl, ?_⟩
    omega
   by_cases c1 : H = g
   ·have HF : Hid (fits T = true ∧ Z = T) := Lib.hid ⟨by unfold fits; rw [decide_eq_true_eq]; omega, by omega⟩
    have d1 : (H == g) = true := beq_iff_eq.2 c1
    have d2 : (H != g) = false := by rw [bne, d1]; rfl
    clear hs l0 l1 z0 g0 c1
    go_wp2
    go_ret2
    unfold SumAt
    rw [← HTE.out, HF.out.1]
    exact ⟨by rw [HF.out.2]; rfl, HS.out.2.2.2.2.2⟩
   ·have HF : Hid (fits T = false) := Lib.hid (by unfold fits; rw [decide_eq_false_iff_not]; omega)
    have d1 : (H == g) = false := beq_eq_false_iff_ne.2 c1
    have d2 : (H != g) = true := by rw [bne, d1]; rfl
    clear hs l0 l1 z0 g0 c1
    go_wp2
    go_ret2
    unfold SumAt
    rw [← HTE.out, HF.out]
    exact ⟨rfl, HS.out.2.2.2.2.2⟩
end Go.Proofs.YtcgdloldkcmhnaaGreat.H
end
section
namespace Go.Proofs.YtcgdloldkcmhnaaGreat.H
open Go Go.RowKit Go.Proofs.YtcgdloldkcmhnaaGreat.PrintC Go.Proofs.YtcgdloldkcmhnaaGreat.PrintE Go.Proofs.YtcgdloldkcmhnaaGreatW.PrintWords Go.Proofs.YtcgdloldkcmhnaaGreatW.PrintLast Go.Proofs.YtcgdloldkcmhnaaGreatW.PrintMore
set_option linter.unusedVariables false
set_option linter.unusedSimpArgs false
def f2s (l : List Mv) (g : List Int) : List Int := g.map fun k => (mvAt l k.toNat).f2
def part (v : List Int) (i : Nat) : List Int := v.take i ++ List.replicate (v.length - i) 0
theorem part_next {v : List Int} {i : Nat} {x : Int} (h : v[i]? = some x) : (part v i).set i x = part v (i + 1) := by
 have hi : i < v.length := (List.getElem?_eq_some_iff.1 h).1
 unfold part
 have hl : (v.take i).length = i := by rw [List.length_take]; omega
 rw [List.set_append_right _ _ (by omega), hl, Nat.sub_self, List.take_add_one, h, show v.length - i = (v.length - (i + 1)) + 1 by omega, List.replicate_succ, List.set_cons_zero, List.append_assoc]
 rfl
theorem part_end (v : List Int) : part v v.length = v := by
 unfold part
 rw [Nat.sub_self, List.take_length]
 exact List.append_nil _
set_option maxHeartbeats 8000000 in
set_option maxRecDepth 100000 in
theorem tot_walk (A : Option Addr) (c : Nat) (l : List Mv) (Ag : Option Addr) (cg : Nat) (g : List Int) (w : World) (hr : Kd.C kMv w A l.length l) (hg : Kd.C (Kd.int .i64) w Ag g.length g) (hk : ∀ k, k ∈ g → ∃ t : Nat, t < l.length ∧ k = t) (hi : ∀ x, x ∈ l → -9223372036854775808 ≤ x.f2 ∧ x.f2 ≤ 9223372036854775807) (h0 : 0 < g.length) (hl : g.length ≤ 100000) :
  Calls Tryz.prog 72 #[.slice A l.length c, .slice Ag g.length cg, .func (.func 73) #[] #[]] w (SumAt (f2s l g) w) := by
 have HR := Lib.hid hr
 have HG := Lib.hid hg
 have HK := Lib.hid hk
 have HI := Lib.hid hi
 obtain ⟨vs, hvs⟩ : ∃ vs, vs = f2s l g := ⟨_, rfl⟩
 have HVL : Hid (vs.length = g.length) := Lib.hid (by rw [hvs]; exact List.length_map ..)
 have HV := Lib.hid hvs
 rw [← hvs]
 clear hr hg hk hi hvs
 go_enter Tryz.func72, Tryz.ntmps72
 go_wp2_with ((with_reducible refine gate_dst (N := 13) rfl ?_); go_loud (refine Kd.R_make (Kd.int .i64) (w0 := w) w.heap.size 3 rfl rfl 68 (.tmp 12) (.tmp 12) rfl (g.length : Int) rfl rfl Tryz.underlying68 (.int .i64 0) 8 infoNum rfl (by decide) (by decide) (0 : Int) (ok := fun _ => True) (okp := fun _ => False) rfl (fun _ h => h.elim) trivial (by omega) (by rw [Int.toNat_natCast]; exact Nat.le_trans (Nat.mul_le_mul_right 8 hl) (by decide)) (Below.refl _ _) (Nat.le_refl _) ?_; intro v1 w1 ho hb hgr hat; rw [Int.toNat_natCast] at ho; obtain ⟨ga, ca, rfl, -⟩ := Kd.R_form ho (by rw [List.length_replicate]; exact h0); rw [List.length_replicate] at ho ⊢; have HX : Hid (Kd.R (Kd.int .i64) 3 w1 w.heap.size (fun _ => True) (.slice (some ⟨ga, 0, none⟩) g.length ca) (part vs 0) ∧ Below w.heap.size w w1) := Lib.hid ⟨(by unfold part; rw [Nat.sub_zero, HVL.out]; exact ho), hb⟩; clear ho hb hgr hat))
 go_loopg [16] (g.length + 1) (fun k iv W => ∃ i : Nat, i ≤ g.length ∧ iv = .int .i64 i ∧ k = g.length + 1 - i ∧ Hid (Kd.R (Kd.int .i64) 3 W w.heap.size (fun _ => True) (.slice (some ⟨ga, 0, none⟩) g.length ca) (part vs i) ∧ Below w.heap.size w W))
 case atStart => exact ⟨0, Nat.zero_le _, rfl, rfl, HX⟩
 case round =>
  obtain ⟨i, hi, rfl, rfl, HL⟩ := hrel
  clear HX
  by_cases hlt : i < g.length
  ·have i0 : (0 : Int) ≤ (i : Int) := by omega
   have i1 : (i : Int) < (g.length : Int) := by omega
   obtain ⟨ae, eb, z0⟩ := Kd.at_int (Kd.C_below HG.out HL.out.2) (i : Int) i0 i1
   subst eb
   rw [Int.toNat_natCast] at z0
   have hmem : rd g (i : Int) ∈ g := by
    unfold rd
    rw [Int.toNat_natCast, List.getD_eq_getElem?_getD, List.getElem?_eq_getElem hlt]
    exact List.getElem_mem hlt
   obtain ⟨t, ht, et⟩ := HK.out _ hmem
   have HRD : Hid (g[i]? = some (t : Int)) := Lib.hid (by
    rw [← et]
    unfold rd
    rw [Int.toNat_natCast, List.getD_eq_getElem?_getD, List.getElem?_eq_getElem hlt]
    rfl)
   rw [et] at z0
   clear hmem et
   have t0 : (0 : Int) ≤ (t : Int) := by omega
   have t1 : (t : Int) < (l.length : Int) := by omega
   obtain ⟨ad, ea, y0, y1, y2⟩ := at_T76 (Kd.C_below HR.out HL.out.2) (t : Int) t0 t1
   subst ea
   obtain ⟨X, hX⟩ : ∃ X, X = mvAt l t := ⟨_, rfl⟩
   have hX2 : rd_T76 l (t : Int) = X := by rw [hX]; rfl
   rw [Int.toNat_natCast, hX2] at y0 y1 y2
   have HXE := Lib.hid hX
   clear hX hX2
   go_wp2_with (go_at_call 73; (with_reducible refine (num_walk X _).mono ?_); rintro e w1 ⟨rfl, hb⟩; have HI1 := Lib.hid (And.intro (Kd.R_below HL.out.1 hb) (below_step HL.out.2 hb)); obtain ⟨za, zf⟩ := Kd.R_celln (0 : Int) HI1.out.1 (i : Int) i0 i1; rw [Int.toNat_natCast] at za zf; clear hb)
   have HF := Lib.hid (And.intro (Kd.R_putn HI1.out.1 (i : Int) X.f2) (HI1.out.2.setCell (p := ⟨ga, i, none⟩) (Kd.R_base HI1.out.1 ga rfl) (.int .i64 X.f2)))
   go_roundg (g.length - i)
   case measure => omega
   case rel => exact ⟨i + 1, by omega, by go_num, by omega, Lib.hid (by
    have h9 := HF.out
    rw [Int.toNat_natCast, part_next (x := X.f2) (by
     rw [HV.out]
     unfold f2s
     rw [List.getElem?_map, HRD.out, Option.map_some, Int.toNat_natCast, ← HXE.out])] at h9
    exact h9)⟩
  ·have e : i = g.length := by omega
   subst e
   have hs := HL.out.1
   rw [← HVL.out, part_end, HVL.out] at hs
   have HS := Lib.hid hs
   clear hs
   have HI64 : Hid (I64s vs) := Lib.hid (fun x hx => by
    rw [HV.out] at hx
    unfold f2s at hx
    obtain ⟨k, hk, rfl⟩ := List.mem_map.1 hx
    obtain ⟨t, ht, rfl⟩ := HK.out k hk
    exact HI.out _ (mvAt_mem (by rw [Int.toNat_natCast]; exact ht)))
   have HLV : Hid (vs.length ≤ 1000000) := Lib.hid (by rw [HVL.out]; omega)
   obtain ⟨T, hT⟩ : ∃ T, T = if fits (sumL vs) = true then sumL vs else 0 := ⟨_, rfl⟩
   obtain ⟨F, hF⟩ : ∃ F, F = fits (sumL vs) := ⟨_, rfl⟩
   have HTF := Lib.hid (And.intro hT hF)
   have HSUM : Hid (∀ W, Kd.C (Kd.int .i64) W (some ⟨ga, 0, none⟩) g.length vs → Calls Tryz.prog 90 #[.slice (some ⟨ga, 0, none⟩) g.length ca] W fun e w' => e = .returned (.tuple #[.int .i64 T, .bool F]) ∧ Below W.heap.size W w') := Lib.hid (fun W h => by
    rw [← HVL.out] at h ⊢
    rw [hT, hF]
    exact csum_walk (some ⟨ga, 0, none⟩) ca vs W h HI64.out HLV.out)
   clear hT hF
   go_wp2_with (go_at_call 90; (with_reducible refine (HSUM.out _ ?s1).mono ?_); (case s1 => have h9 := (Kd.R_reads' HS.out).2.2; rw [HVL.out] at h9; exact h9); rintro e w3 ⟨rfl, hb⟩; have HB3 := Lib.hid (below_step HL.out.2 hb); clear hb)
   go_ret2
   unfold SumAt
   rw [← HTF.out.1, ← HTF.out.2]
   exact ⟨rfl, HB3.out⟩
end Go.Proofs.YtcgdloldkcmhnaaGreat.H
end
section
namespace Go.Proofs
open Go.Shelf
def Tryz.sortMv_ren : Go.Shelf.Ren := ⟨fun | 6 => 74 | 15 => 92 | 14 => 91 | 28 => 109 | 29 => 110 | 20 => 101 | 21 => 102 | 22 => 103 | 23 => 104 | 24 => 105 | 25 => 106 | 26 => 107 | 27 => 108 | 46 => 123 | 47 => 124 | 48 => 125 | 49 => 126 | 50 => 127 | 57 => 137 | n => n, fun | 22 => 40 | 24 => 76 | 25 => 138 | 3 => 3 | 39 => 127 | 0 => 0 | 53 => 177 | 55 => 166 | 4 => 4 | 46 => 171 | 45 => 170 | 50 => 77 | 5 => 5 | 9 => 9 | 66 => 191 | 70 => 195 | 76 => 207 | 77 => 118 | n => n, fun | n => n⟩
theorem Tryz.sortMv : Go.Proofs.SlLaysF0.n6 Tryz.prog Tryz.sortMv_ren := {
 mixed := by kernel_rfl
 f6 := ⟨Tryz.f74.name, by decide, Tryz.func74.trans (congrArg some (by kernel_rfl))⟩
 f14 := ⟨Tryz.f91.name, by decide, Tryz.func91.trans (congrArg some (by kernel_rfl))⟩
 f15 := Tryz.func92.trans (congrArg some (by kernel_rfl))
 f20 := ⟨Tryz.f101.name, by decide, Tryz.func101.trans (congrArg some (by kernel_rfl))⟩
 f21 := ⟨Tryz.f102.name, by decide, Tryz.func102.trans (congrArg some (by kernel_rfl))⟩
 f22 := ⟨Tryz.f103.name, by decide, Tryz.func103.trans (congrArg some (by kernel_rfl))⟩
 f23 := ⟨Tryz.f104.name, by decide, Tryz.func104.trans (congrArg some (by kernel_rfl))⟩
 f24 := ⟨Tryz.f105.name, by decide, Tryz.func105.trans (congrArg some (by kernel_rfl))⟩
 f25 := ⟨Tryz.f106.name, by decide, Tryz.func106.trans (congrArg some (by kernel_rfl))⟩
 f26 := ⟨Tryz.f107.name, by decide, Tryz.func107.trans (congrArg some (by kernel_rfl))⟩
 f27 := ⟨Tryz.f108.name, by decide, Tryz.func108.trans (congrArg some (by kernel_rfl))⟩
 f28 := Tryz.func109.trans (congrArg some (by kernel_rfl))
 f29 := Tryz.func110.trans (congrArg some (by kernel_rfl))
 f46 := ⟨Tryz.f123.name, by decide, Tryz.func123.trans (congrArg some (by kernel_rfl))⟩
 f47 := Tryz.func124.trans (congrArg some (by kernel_rfl))
 f48 := Tryz.func125.trans (congrArg some (by kernel_rfl))
 f49 := ⟨Tryz.f126.name, by decide, Tryz.func126.trans (congrArg some (by kernel_rfl))⟩
 f50 := ⟨Tryz.f127.name, by decide, Tryz.func127.trans (congrArg some (by kernel_rfl))⟩
 f57 := ⟨Tryz.f137.name, by decide, Tryz.func137.trans (congrArg some (by kernel_rfl))⟩
 t0 := Tryz.underlying0
 a0 := Tryz.isAgg0
 z0 := Tryz.sizeOf0
 v0 := Tryz.zeroValue0
 t3 := Tryz.underlying3
 a3 := Tryz.isAgg3
 z3 := Tryz.sizeOf3
 v3 := Tryz.zeroValue3
 t4 := Tryz.underlying4
 a4 := Tryz.isAgg4
 z4 := Tryz.sizeOf4
 v4 := Tryz.zeroValue4
 t5 := Tryz.underlying5
 a5 := Tryz.isAgg5
 z5 := Tryz.sizeOf5
 v5 := Tryz.zeroValue5
 t9 := Tryz.underlying9
 a9 := Tryz.isAgg9
 z9 := Tryz.sizeOf9
 v9 := Tryz.zeroValue9
 t22 := Tryz.underlying40
 a22 := Tryz.isAgg40
 z22 := Tryz.sizeOf40
 v22 := Tryz.zeroValue40
 t25 := Tryz.underlying138
 a25 := Tryz.isAgg138
 z25 := Tryz.sizeOf138
 v25 := Tryz.zeroValue138
 t39 := Tryz.underlying127
 a39 := Tryz.isAgg127
 z39 := Tryz.sizeOf127
 v39 := Tryz.zeroValue127
 t45 := Tryz.underlying170
 a45 := Tryz.isAgg170
 z45 := Tryz.sizeOf170
 v45 := Tryz.zeroValue170
 t46 := Tryz.underlying171
 a46 := Tryz.isAgg171
 z46 := Tryz.sizeOf171
 v46 := Tryz.zeroValue171
 t50 := Tryz.underlying77
 a50 := Tryz.isAgg77
 z50 := Tryz.sizeOf77
 v50 := Tryz.zeroValue77
 t53 := Tryz.underlying177
 a53 := Tryz.isAgg177
 z53 := Tryz.sizeOf177
 v53 := Tryz.zeroValue177
 t55 := Tryz.underlying166
 a55 := Tryz.isAgg166
 z55 := Tryz.sizeOf166
 v55 := Tryz.zeroValue166
 t66 := Tryz.underlying191
 a66 := Tryz.isAgg191
 z66 := Tryz.sizeOf191
 v66 := Tryz.zeroValue191
 t70 := Tryz.underlying195
 a70 := Tryz.isAgg195
 z70 := Tryz.sizeOf195
 v70 := Tryz.zeroValue195
 t76 := Tryz.underlying207
 a76 := Tryz.isAgg207
 z76 := Tryz.sizeOf207
 v76 := Tryz.zeroValue207
 t77 := Tryz.underlying118
 a77 := Tryz.isAgg118
 z77 := Tryz.sizeOf118
 v77 := Tryz.zeroValue118 }
end Go.Proofs
end
section
namespace Go.Proofs.YtcgdloldkcmhnaaGreat.H
open Go Go.RowKit Go.Proofs.YtcgdloldkcmhnaaGreat.PrintC Go.Proofs.YtcgdloldkcmhnaaGreat.PrintE Go.Proofs.YtcgdloldkcmhnaaGreatW.PrintWords Go.Proofs.YtcgdloldkcmhnaaGreatW.PrintLast Go.Proofs.YtcgdloldkcmhnaaGreatW.PrintMore
set_option linter.unusedVariables false
set_option linter.unusedSimpArgs false
instance : Inhabited Mv := ⟨z76⟩
def encMv (x : Mv) : List Value := [.int .i64 x.f0, .int .i64 x.f1, .int .i64 x.f2]
def cmpI (x y : Int) : Int := if x < y then -1 else if y < x then 1 else 0
def cmpMv (a b : Mv) : Int := if cmpI a.f1 b.f1 = 0 then cmpI a.f0 b.f0 else cmpI a.f1 b.f1
theorem cmpMv_iff (a b : Mv) : cmpMv a b < 0 ↔ mlt a b := by
 unfold cmpMv cmpI mlt
 repeat' split
 all_goals omega
section
variable (w : World)
theorem nan_walk (x : Int) : Calls Tryz.prog 93 #[.int .i64 x] w fun e w' => e = .returned (.bool false) ∧ w' = w := by
 have hx : (x != x) = false := bne_self_eq_false x
 go_enter Tryz.func93, Tryz.ntmps93
 go_wp2
 go_ret
 exact ⟨rfl, rfl⟩
set_option maxHeartbeats 1000000 in
theorem compare_walk (x y R : Int) (hR : cmpI x y = R) : Calls Tryz.prog 77 #[.int .i64 x, .int .i64 y] w fun e w' => e = .returned (.int .i64 R) ∧ w' = w := by
 unfold cmpI at hR
 by_cases c1 : x < y
 ·rw [if_pos c1] at hR
  subst hR
  go_enter Tryz.func77, Tryz.ntmps77
  go_wp2_with (go_at_call 93; refine (nan_walk _ _).mono ?_; rintro e w1 ⟨rfl, rfl⟩)
  go_ret
  exact ⟨rfl, rfl⟩
 ·rw [if_neg c1] at hR
  by_cases c2 : y < x
  ·rw [if_pos c2] at hR
   subst hR
   go_enter Tryz.func77, Tryz.ntmps77
   go_wp2_with (go_at_call 93; refine (nan_walk _ _).mono ?_; rintro e w1 ⟨rfl, rfl⟩)
   go_ret
   exact ⟨rfl, rfl⟩
  ·rw [if_neg c2] at hR
   subst hR
   go_enter Tryz.func77, Tryz.ntmps77
   go_wp2_with (go_at_call 93; refine (nan_walk _ _).mono ?_; rintro e w1 ⟨rfl, rfl⟩)
   go_ret
   exact ⟨rfl, rfl⟩
set_option maxHeartbeats 1000000 in
theorem or_walk (g : Nat) (x y R : Int) (hR : (if x = 0 then y else x) = R) (z0 : w.cell? ⟨g, 0, none⟩ = some (.int .i64 x)) (z1 : w.cell? ⟨g, 1, none⟩ = some (.int .i64 y)) :
  Calls Tryz.prog 76 #[.slice (some ⟨g, 0, none⟩) 2 2] w fun e w' => e = .returned (.int .i64 R) ∧ w' = w := by
 have HR := Lib.hid hR
 clear hR
 go_enter Tryz.func76, Tryz.ntmps76
 go_wp2
 go_loopg [8] 3 (fun k iv W => W = w ∧ ((iv = .int .i64 0 ∧ k = 3) ∨ (iv = .int .i64 1 ∧ k = 2 ∧ Hid (x = 0)) ∨ (iv = .int .i64 2 ∧ k = 1 ∧ Hid (x = 0 ∧ y = 0))))
 case atStart => exact ⟨rfl, .inl ⟨rfl, rfl⟩⟩
 case round =>
  obtain ⟨rfl, (⟨rfl, rfl⟩ | ⟨rfl, rfl, HX⟩ | ⟨rfl, rfl, HX⟩)⟩ := hrel
  ·by_cases c : x = 0
   ·have d1 : (x == 0) = true := beq_iff_eq.2 c
    have d2 : (x != 0) = false := by rw [bne, d1]; rfl
    have HC := Lib.hid c
    clear c
    go_wp2
    go_roundg 2
    case measure => omega
    case rel => exact ⟨rfl, .inr (.inl ⟨rfl, rfl, HC⟩)⟩
   ·have d1 : (x == 0) = false := beq_eq_false_iff_ne.2 c
    have d2 : (x != 0) = true := by rw [bne, d1]; rfl
    have HC := Lib.hid c
    clear c
    go_wp2
    go_ret
    exact ⟨by rw [← HR.out, if_neg HC.out]; rfl, rfl⟩
  ·by_cases c : y = 0
   ·have d1 : (y == 0) = true := beq_iff_eq.2 c
    have d2 : (y != 0) = false := by rw [bne, d1]; rfl
    have HC := Lib.hid c
    clear c
    go_wp2
    go_roundg 1
    case measure => omega
    case rel => exact ⟨rfl, .inr (.inr ⟨rfl, rfl, Lib.hid ⟨HX.out, HC.out⟩⟩)⟩
   ·have d1 : (y == 0) = false := beq_eq_false_iff_ne.2 c
    have d2 : (y != 0) = true := by rw [bne, d1]; rfl
    have HC := Lib.hid c
    clear c
    go_wp2
    go_ret
    exact ⟨by rw [← HR.out, if_pos HX.out]; rfl, rfl⟩
  ·go_wp2
   go_ret
   exact ⟨by rw [← HR.out, if_pos HX.out.1, HX.out.2]; rfl, rfl⟩
end
def Grew (W w' : World) : Prop := ∃ q os', w' = Go.Sort.grow (W.drewN q) os'
theorem Grew.refl (W : World) : Grew W W := ⟨0, #[], by rw [Go.Sort.grow_empty]; rfl⟩
theorem Grew.alloc {W w' : World} (h : Grew W w') (o : Obj) : Grew W (w'.alloc o) := by
 obtain ⟨q, os, rfl⟩ := h
 exact ⟨q, _, by rw [Go.Sort.alloc_eq_grow, Go.Sort.grow_grow]⟩
theorem Grew.drew {W w' : World} (h : Grew W w') : Grew W w'.drew := by
 obtain ⟨q, os, rfl⟩ := h
 exact ⟨q + 1, os, rfl⟩
set_option maxHeartbeats 4000000 in
set_option maxRecDepth 100000 in
theorem cmp3_walk (x y : Mv) (W : World) : Calls Tryz.prog 75 #[.agg #[.int .i64 x.f0, .int .i64 x.f1, .int .i64 x.f2], .agg #[.int .i64 y.f0, .int .i64 y.f1, .int .i64 y.f2]] W fun e w' => e = .returned (.int .i64 (cmpMv x y)) ∧ Grew W w' := by
 obtain ⟨R, hR⟩ : ∃ R, R = cmpMv x y := ⟨_, rfl⟩
 obtain ⟨R1, hR1⟩ : ∃ R1, cmpI x.f1 y.f1 = R1 := ⟨_, rfl⟩
 obtain ⟨R2, hR2⟩ : ∃ R2, cmpI x.f0 y.f0 = R2 := ⟨_, rfl⟩
 have HR : Hid ((if R1 = 0 then R2 else R1) = R ∧ cmpI x.f1 y.f1 = R1 ∧ cmpI x.f0 y.f0 = R2) := Lib.hid ⟨by rw [hR, ← hR1, ← hR2]; rfl, hR1, hR2⟩
 rw [← hR]
 clear hR hR1 hR2
 go_enter Tryz.func75, Tryz.ntmps75
 go_wp2
 obtain ⟨wr, hwr⟩ : ∃ wr, wr = (W.alloc (.cells #[.int .i64 x.f0, .int .i64 x.f1, .int .i64 x.f2] 76)).alloc (.cells #[.int .i64 y.f0, .int .i64 y.f1, .int .i64 y.f2] 76) := ⟨_, rfl⟩
 have HG : Hid (Grew W wr) := Lib.hid (by rw [hwr]; exact ((Grew.refl W).alloc _).alloc _)
 have hc : wr.drew.cell? ⟨W.heap.size, 1, none⟩ = some (.int .i64 x.f1) ∧ wr.drew.cell? ⟨W.heap.size + 1, 1, none⟩ = some (.int .i64 y.f1) ∧ wr.drew.cell? ⟨W.heap.size, 0, none⟩ = some (.int .i64 x.f0) ∧ wr.drew.cell? ⟨W.heap.size + 1, 0, none⟩ = some (.int .i64 y.f0) := by
  rw [hwr]
  refine ⟨?_, ?_, ?_, ?_⟩ <;> simp
 rw [← hwr]
 clear hwr
 refine stepS (S := fun w' => w'.cell? ⟨W.heap.size, 1, none⟩ = some (.int .i64 x.f1) ∧ w'.cell? ⟨W.heap.size + 1, 1, none⟩ = some (.int .i64 y.f1) ∧ w'.cell? ⟨W.heap.size, 0, none⟩ = some (.int .i64 x.f0) ∧ w'.cell? ⟨W.heap.size + 1, 0, none⟩ = some (.int .i64 y.f0)) (ds := [11]) 13 (by kernel_rfl) rfl hc (fun hHeld => ?_)
 have HG1 := Lib.hid HG.out.drew
 generalize wr.drew = wd at HG1 hHeld ⊢
 clear hc HG
 refine sP 0 ?_
 refine sT 1 hHeld ?_
 refine sP 2 ?_
 refine sT 3 hHeld ?_
 refine sP 5 ?_
 refine sT 6 hHeld ?_
 refine sP 7 ?_
 refine sT 8 hHeld ?_
 refine sC 4 Tryz.func77 #[.int .i64 x.f1, .int .i64 y.f1] (compare_walk wd x.f1 y.f1 R1 HR.out.2.1) ?_
 rintro e w5 ⟨rfl, rfl⟩
 refine ⟨_, rfl, hHeld, fun hHeld => ?_⟩
 refine sN ?_
 refine sC 9 Tryz.func77 #[.int .i64 x.f0, .int .i64 y.f0] (compare_walk w5 x.f0 y.f0 R2 HR.out.2.2) ?_
 rintro e w6 ⟨rfl, rfl⟩
 refine ⟨_, rfl, hHeld, fun hHeld => ?_⟩
 refine sN ?_
 refine sB 10 hHeld (fun hHeld => ?_)
 have HG2 := Lib.hid (HG1.out.alloc (.cells #[.int .i64 R1, .int .i64 R2] 3))
 refine sCL 11 Tryz.func76 #[.slice (some ⟨w6.heap.size, 0, none⟩) 2 2] (or_walk _ w6.heap.size R1 R2 R HR.out.1 (by simp) (by simp)) ?_
 rintro e w7 ⟨rfl, rfl⟩
 refine ⟨_, rfl, ?_⟩
 refine sN ?_
 refine sP 12 ?_
 refine done_ (by kernel_rfl) ?_
 clear hHeld
 go_wp2
 go_ret
 exact ⟨rfl, HG2.out⟩
end Go.Proofs.YtcgdloldkcmhnaaGreat.H
end
section
namespace Go.Proofs.YtcgdloldkcmhnaaGreat.H
open Go Go.RowKit Go.Proofs.YtcgdloldkcmhnaaGreat.PrintC Go.Proofs.YtcgdloldkcmhnaaGreat.PrintE Go.Proofs.YtcgdloldkcmhnaaGreatW.PrintWords Go.Proofs.YtcgdloldkcmhnaaGreatW.PrintLast Go.Proofs.YtcgdloldkcmhnaaGreatW.PrintMore
set_option linter.unusedVariables false
set_option linter.unusedSimpArgs false
theorem mv_swo : Go.Sort.SWO (Go.Proofs.ltOf cmpMv) where
 irrefl x := by
  unfold Go.Proofs.ltOf
  rw [decide_eq_false_iff_not, cmpMv_iff]
  unfold mlt
  omega
 trans x y z h1 h2 := by
  unfold Go.Proofs.ltOf at *
  rw [decide_eq_true_eq, cmpMv_iff] at *
  exact mlt_trans h1 h2
 ntrans x y z h1 h2 := by
  unfold Go.Proofs.ltOf at *
  rw [decide_eq_false_iff_not, cmpMv_iff] at *
  unfold mlt at *
  omega
theorem flat_put (d : Array Mv) (j : Nat) (x : Mv) (hj : j < d.size) : Go.Sort.setMany (Go.Sort.flatK encMv 3 d) (j * 3) (encMv x) = Go.Sort.flatK encMv 3 (d.setIfInBounds j x) := by
 refine Go.Sort.ext_get! (by simp) fun t ht => ?_
 have ht' : t < d.size * 3 := by simpa using ht
 rw [Go.Sort.get_setMany _ _ _ t (by simpa using ht'), Go.Sort.get_flatK _ _ _ t ht', Go.Sort.get_flatK _ _ _ t (by simpa using ht'), show (encMv x).length = 3 from rfl]
 have e : (d.setIfInBounds j x)[t / 3]! = if t / 3 = j then x else d[t / 3]! := by
  by_cases a : t / 3 = j
  ·rw [a, if_pos rfl, Go.Sort.getElem!_set_same _ _ _ hj]
  ·rw [if_neg a]
   rw [getElem!_pos _ (t / 3) (by rw [Array.size_setIfInBounds]; omega), getElem!_pos _ (t / 3) (by omega), Array.getElem_setIfInBounds, if_neg (Ne.symm a)]
 rw [e]
 by_cases a : t / 3 = j
 ·rw [if_pos (by omega), if_pos a, show t - j * 3 = t % 3 by omega]
 ·rw [if_neg (by omega), if_neg a]
section
variable {W : World} {base g n c : Nat}
theorem mv_holds {xs : List Mv} (h : Kd.R kMv 76 W base (fun _ => True) (.slice (some ⟨g, 0, none⟩) n c) xs) : Go.Sort.HoldsK encMv 3 W g 0 xs.toArray := by
 intro j hj
 have hj' : j < xs.length * 3 := by simpa using hj
 have hn : n = xs.length := (Kd.R_reads' h).1
 obtain ⟨ce, hcl, hM, hcc, hfr⟩ := Kd.R_elem h z76 ((j / 3 : Nat) : Int) (by omega) (by omega)
 obtain rfl := k76_openM hM
 rw [Go.Sort.get_flatK _ _ _ j (by simpa using hj')]
 have e : xs.toArray[j / 3]! = xs.getD (j / 3) z76 := by
  rw [List.getD_eq_getElem?_getD, List.getElem?_eq_getElem (by omega), getElem!_pos _ _ (by simp; omega)]
  simp
 rw [e]
 simp only [Int.toNat_natCast, show k76.sz = 3 from rfl] at hcc hfr
 have hk : j = j / 3 * 3 + j % 3 := by omega
 have hr := hfr (j % 3)
 rw [← hk] at hr
 refine ⟨?_, by rw [Nat.zero_add]; exact hr⟩
 have hm : j % 3 = 0 ∨ j % 3 = 1 ∨ j % 3 = 2 := by omega
 rw [Nat.zero_add]
 rcases hm with h0 | h0 | h0
 ·have := hcc 0 _ rfl
  rw [← h0, ← hk] at this
  rw [this, h0]
  rfl
 ·have := hcc 1 _ rfl
  rw [← h0, ← hk] at this
  rw [this, h0]
  rfl
 ·have := hcc 2 _ rfl
  rw [← h0, ← hk] at this
  rw [this, h0]
  rfl
def mixA (d e : Array Mv) : Nat → Array Mv
 |0 => d
 |j + 1 => (mixA d e j).setIfInBounds j e[j]!
theorem mixA_size (d e : Array Mv) : ∀ j, (mixA d e j).size = d.size
 |0 => rfl
 |j + 1 => by rw [mixA, Array.size_setIfInBounds, mixA_size d e j]
theorem mixA_get (d e : Array Mv) (t : Nat) (ht : t < d.size) : ∀ j, (mixA d e j)[t]! = if t < j then e[t]! else d[t]!
 |0 => by rw [if_neg (by omega)]; rfl
 |j + 1 => by
  rw [mixA]
  by_cases a : j = t
  ·subst a
   rw [if_pos (by omega), Go.Sort.getElem!_set_same _ _ _ (by rw [mixA_size]; exact ht)]
  ·have h1 : ((mixA d e j).setIfInBounds j e[j]!)[t]! = (mixA d e j)[t]! := by
    rw [getElem!_pos _ t (by rw [Array.size_setIfInBounds, mixA_size]; exact ht), getElem!_pos _ t (by rw [mixA_size]; exact ht), Array.getElem_setIfInBounds, if_neg a]
   rw [h1, mixA_get d e t ht j]
   by_cases b : t < j
   ·rw [if_pos b, if_pos (by omega)]
   ·rw [if_neg b, if_neg (by omega)]
theorem mixA_end (d e : Array Mv) (h : e.size = d.size) : mixA d e d.size = e := by
 refine Array.ext (by rw [mixA_size, h]) fun t h1 h2 => ?_
 have := mixA_get d e t (by rw [mixA_size] at h1; exact h1) d.size
 rw [if_pos (by rw [mixA_size] at h1; exact h1), getElem!_pos _ t h1, getElem!_pos _ t h2] at this
 exact this
theorem mv_mix {w0 : World} {xs : List Mv} (h : Kd.R kMv 76 W base (fun _ => True) (.slice (some ⟨g, 0, none⟩) n c) xs) (hb : Below base w0 W) (e : Array Mv) :
  ∀ j, j ≤ xs.length → Kd.R kMv 76 (Go.Sort.putRowK encMv 3 W g 0 (mixA xs.toArray e j)) base (fun _ => True) (.slice (some ⟨g, 0, none⟩) n c) (mixA xs.toArray e j).toList ∧ Below base w0 (Go.Sort.putRowK encMv 3 W g 0 (mixA xs.toArray e j))
 |0, _ => by
  show Kd.R _ _ (Go.Sort.putRowK encMv 3 W g 0 xs.toArray) base _ _ xs ∧ Below base w0 (Go.Sort.putRowK encMv 3 W g 0 xs.toArray)
  rw [Go.Sort.putRowK_self encMv 3 W g 0 _ (mv_holds h)]
  exact ⟨h, hb⟩
 |j + 1, hj => by
  obtain ⟨h1, h2⟩ := mv_mix h hb e j (by omega)
  have hn : n = xs.length := (Kd.R_reads' h).1
  have hs : (mixA xs.toArray e j).size = xs.length := by rw [mixA_size]; simp
  obtain ⟨ce, hcl, hM, hcc, hfr⟩ := Kd.R_elem h1 z76 (j : Int) (by omega) (by omega)
  obtain rfl := k76_openM hM
  have hg := Kd.R_base h g rfl
  have s1 := (Kd.R_seg h1 (j : Int) (by omega) (by omega) (seg := encMv e[j]!) (j := 0) hcl hcc (show 3 ≤ 3 from by decide) (x' := e[j]!) (k76_mkM _ _ _ _) (fun _ hk => hk)).1
  have ew : (Go.Sort.putRowK encMv 3 W g 0 (mixA xs.toArray e j)).setCells g (0 + j * 3) (encMv e[j]!) = Go.Sort.putRowK encMv 3 W g 0 (mixA xs.toArray e (j + 1)) := by
   unfold Go.Sort.putRowK
   rw [Go.Sort.setCells_putRow _ _ _ _ _ _ (by rw [Go.Sort.size_flatK, hs, show (encMv e[j]!).length = 3 from rfl]; omega), flat_put _ _ _ (by omega)]
   rfl
  rw [Int.toNat_natCast, show k76.sz = 3 from rfl, Nat.add_zero, ← Nat.zero_add (j * 3), ew] at s1
  refine ⟨?_, ?_⟩
  ·rw [show (mixA xs.toArray e (j + 1)).toList = (mixA xs.toArray e j).toList.set j e[j]! from Array.toList_setIfInBounds ..]
   exact s1
  ·rw [← ew]
   exact ((h2.setCell hg _).setCell hg _).setCell hg _
end
theorem below_grow (W : World) (os : Array Obj) : Below W.heap.size W (Go.Sort.grow W os) := ⟨rfl, rfl, rfl, by rw [Go.Sort.size_grow]; omega, fun k hk => Go.Sort.heap_grow_old W os hk⟩
theorem sortmv_walk {base : Nat} {w0 W : World} {Ao : Option Addr} {co : Nat} {xs : List Mv} (h : Kd.R kMv 76 W base (fun _ => True) (.slice Ao xs.length co) xs) (hb : Below base w0 W) (hbs : base ≤ W.heap.size) (hl : xs.length ≤ 1000000) :
  Calls Tryz.prog 74 #[.slice Ao xs.length co, .func (.func 75) #[] #[]] W fun e w' => e = .returned (.tuple #[]) ∧ ∃ ys : List Mv, ys.Perm xs ∧ ys.Pairwise (fun a b => ¬ mlt b a) ∧ Kd.R kMv 76 w' base (fun _ => True) (.slice Ao xs.length co) ys ∧ Below base w0 w' := by
 by_cases h0 : 0 < xs.length
 case neg =>
  have e0 : xs = [] := List.length_eq_zero_iff.1 (by omega)
  subst e0
  have hcon := Go.Proofs.AnyF.slices_SortFunc_none Tryz.sortMv Ao co (.func (.func 75) #[] #[]) W
  change Calls Tryz.prog 74 _ _ _ at hcon
  refine hcon.mono ?_
  rintro e w' ⟨rfl, rfl⟩
  exact ⟨rfl, [], List.Perm.refl _, List.Pairwise.nil, h, hb⟩
 obtain ⟨g, cap, e1, hbg, hgl, -⟩ := Kd.R_form h h0
 injection e1 with e1 _ e2
 subst e1
 subst e2
 have eg : ∀ args w, (callFunc 75 args).run Tryz.prog w = .ok (.enter 75 args) w := enters_of Tryz.func75 (by kernel_rfl) rfl
 have hcmp : Go.Proofs.CmpLays Tryz.prog 75 #[] encMv 3 cmpMv g 0 xs.toArray.size W := fun _ _ _ _ x y => cmp3_walk x y _
 have hcon := Go.Proofs.AnyQ.slices_SortFunc Tryz.sortMv 3 Tryz.isAgg76 Tryz.sizeOf76 encMv (fun _ => rfl) (fun x v hv => by simp [encMv] at hv; rcases hv with rfl | rfl | rfl <;> rfl) cmpMv mv_swo 75 #[] g 0 co xs.toArray W eg hcmp (mv_holds h) hgl (by simp; omega)
 change Calls Tryz.prog 74 _ _ _ at hcon
 rw [List.size_toArray] at hcon
 refine hcon.mono ?_
 rintro e w' ⟨rfl, d', m, os, hp, hs, rfl⟩
 obtain ⟨hsz, -, hpm⟩ := hp
 have hsz : d'.size = xs.length := by simpa using hsz
 have hx : ∀ a : Array Mv, a.size = xs.length → (a.extract 0 xs.length).toList = a.toList := fun a ha => by rw [← ha, Array.extract_size]
 rw [hx d' hsz, hx xs.toArray (List.size_toArray ..)] at hpm
 have h1 := Kd.R_below h (show Below W.heap.size W (Go.Sort.ahead W m) from ⟨rfl, rfl, rfl, Nat.le_refl _, fun _ _ => rfl⟩)
 have hb1 : Below base w0 (Go.Sort.ahead W m) := hb.trans (show Below base W (Go.Sort.ahead W m) from ⟨rfl, rfl, rfl, Nat.le_refl _, fun _ _ => rfl⟩)
 have hm := mv_mix h1 hb1 d' xs.length (Nat.le_refl _)
 have he : mixA xs.toArray d' xs.length = d' := by
  have := mixA_end xs.toArray d' (by rw [hsz]; simp)
  rwa [List.size_toArray] at this
 rw [he] at hm
 have hgw := below_grow (Go.Sort.putRowK encMv 3 (Go.Sort.ahead W m) g 0 d') os
 refine ⟨rfl, d'.toList, hpm, ?_, Kd.R_below hm.1 hgw, hm.2.trans (hgw.mono (Nat.le_of_lt (Nat.lt_of_le_of_lt hbg (Kd.R_lt hm.1 g rfl))))⟩
 rw [List.pairwise_iff_getElem]
 intro i j hi hj hij
 have h3 := hs i j (Nat.zero_le _) hij (by rw [← hsz]; simpa using hj)
 unfold Go.Proofs.ltOf at h3
 rw [decide_eq_false_iff_not, cmpMv_iff, getElem!_pos _ _ (by simpa using hj), getElem!_pos _ _ (by simpa using hi)] at h3
 simpa using h3
end Go.Proofs.YtcgdloldkcmhnaaGreat.H
end
section
namespace Go.Proofs.YtcgdloldkcmhnaaGreat.H
open Go Go.RowKit Go.Proofs.YtcgdloldkcmhnaaGreat.PrintC Go.Proofs.YtcgdloldkcmhnaaGreat.PrintE Go.Proofs.YtcgdloldkcmhnaaGreatW.PrintWords Go.Proofs.YtcgdloldkcmhnaaGreatW.PrintLast Go.Proofs.YtcgdloldkcmhnaaGreatW.PrintMore
set_option linter.unusedVariables false
set_option linter.unusedSimpArgs false
theorem mvApp : AppK Tryz.prog kMv 40 76 (fun x => [.int .i64 x.f0, .int .i64 x.f1, .int .i64 x.f2]) := ⟨Tryz.underlying40, ⟨_, 24, infoMv, rfl, by decide, by decide⟩, by decide, k76_mkM⟩
theorem mv_empty {W : World} {g base : Nat} (hb : W.heap[g]? = some (.cells #[] 76 (0, 0))) (hg : base ≤ g) : Kd.R kMv 76 W base (fun _ => True) (.slice (some ⟨g, 0, none⟩) 0 0) [] := by
 exact ⟨fun _ _ => trivial, [], ⟨rfl, .inr ⟨g, 0, #[], rfl, hg, hb, Nat.le_refl _, by decide, rfl, rfl⟩⟩, ⟨rfl, fun j p hj => by simp at hj⟩⟩
theorem group_of {l hs : List Mv} {D : DataW Unit} (h : GaI l l.length hs D) {y : Mv} (hy : y ∈ hs) :
  ∃ (t : Nat) (r : List Int), gIdx l l.length y = (t : Int) :: r ∧ t < l.length ∧ (mvAt l t).f0 = y.f0 ∧ (mvAt l t).f1 = y.f1 := by
 obtain ⟨k, hk, e⟩ := h.mem y hy
 have hm : (k : Int) ∈ gIdx l l.length y := by
  unfold gIdx
  exact List.mem_map.2 ⟨k, List.mem_filter.2 ⟨List.mem_range.2 hk, by rw [e]; exact sameK_refl _⟩, rfl⟩
 cases hg : gIdx l l.length y with
 |nil =>
  rw [hg] at hm
  cases hm
 |cons a r =>
  obtain ⟨t, ht, rfl, hs⟩ := gIdx_mem (show a ∈ gIdx l l.length y by rw [hg]; exact List.mem_cons_self ..)
  exact ⟨t, r, rfl, ht, (sameK_iff.1 hs).1.symm, (sameK_iff.1 hs).2.symm⟩
theorem group_sum (l : List Mv) (y : Mv) : sumL (f2s l (gIdx l l.length y)) = amt l y := by
 unfold f2s
 rw [gIdx_nums y (Nat.le_refl _), List.take_length]
 rfl
theorem group_lt {l : List Mv} {y : Mv} {k : Int} (h : k ∈ gIdx l l.length y) : ∃ t : Nat, t < l.length ∧ k = t := by
 obtain ⟨t, ht, e, -⟩ := gIdx_mem h
 exact ⟨t, ht, e⟩
set_option maxHeartbeats 8000000 in
set_option maxRecDepth 100000 in
theorem moves_walk (A : Option Addr) (c : Nat) (l : List Mv) (w : World) (hr : Kd.C kMv w A l.length l) (hw : ∀ x, x ∈ l → WfM x) (hi : ∀ x, x ∈ l → -9223372036854775808 ≤ x.f2 ∧ x.f2 ≤ 9223372036854775807) (hl : l.length ≤ 100000) :
  Calls Tryz.prog 40 #[.slice A l.length c] w (MovesAt l w) := by
 have HR := Lib.hid hr
 have HW := Lib.hid hw
 have HI := Lib.hid hi
 have hu := Tryz.underlying76
 clear hr hw hi
 go_enter Tryz.func40, Tryz.ntmps40
 go_wp2_with (go_at_call 70; go_loud ((with_reducible refine (gather_walk A c l _ ?s1 HW.out hl).mono ?_); (case s1 => exact Kd.C_below HR.out (below_alloc (Below.refl _ _) _)); rintro e w1 ⟨hb, hs, D, Ag, cg, rfl, hS, hGa, hle⟩; have HX : Hid (Kd.S kInts 68 w1 w.heap.size (fun _ => True) (.slice Ag hs.length cg) (rowsOf l hs) ∧ Kd.R kMv 76 w1 w.heap.size (fun _ => True) (.slice (some ⟨w.heap.size, 0, none⟩) (mAll l (hs.take 0)).length 0) (mAll l (hs.take 0)) ∧ Below w.heap.size w w1) := Lib.hid ⟨Kd.S_lower hS (by rw [alloc_size]; omega), Kd.R_below (mv_empty (heap_alloc_new w _) (Nat.le_refl _)) hb, below_step (below_alloc (Below.refl _ _) _) hb⟩; have HGA := Lib.hid (And.intro hGa hle); clear hb hS hGa hle))
 go_loopg [4, 13] (hs.length + 1) (fun k ov iv W => ∃ (i : Nat) (Ao : Option Addr) (co : Nat), i ≤ hs.length ∧ ov = .slice Ao (mAll l (hs.take i)).length co ∧ iv = .int .i64 i ∧ k = hs.length + 1 - i ∧ Hid (Kd.S kInts 68 W w.heap.size (fun _ => True) (.slice Ag hs.length cg) (rowsOf l hs) ∧ Kd.R kMv 76 W w.heap.size (fun _ => True) (.slice Ao (mAll l (hs.take i)).length co) (mAll l (hs.take i)) ∧ Below w.heap.size w W ∧ ∀ y, y ∈ hs.take i → fits (amt l y) = true))
 case atStart => exact ⟨0, _, 0, Nat.zero_le _, rfl, rfl, rfl, Lib.hid ⟨HX.out.1, HX.out.2.1, HX.out.2.2, fun y hy => by simp at hy⟩⟩
 case round =>
  obtain ⟨i, Ao, co, hi, rfl, rfl, rfl, HL⟩ := hrel
  clear HX
  by_cases hlt : i < hs.length
  ·have hhl := HGA.out.2
   have i0 : (0 : Int) ≤ (i : Int) := by omega
   have i1 : (i : Int) < (hs.length : Int) := by omega
   obtain ⟨y, hy⟩ : ∃ y, hs[i]? = some y := ⟨_, List.getElem?_eq_getElem hlt⟩
   have hym : y ∈ hs := List.mem_of_getElem? hy
   have hrow : (rowsOf l hs).getD i [] = gIdx l l.length y := by
    unfold rowsOf
    rw [List.getD_eq_getElem?_getD, List.getElem?_map, hy]
    rfl
   obtain ⟨go, Ar, cr, eg, z0, hrr⟩ := list_at HL.out.1 i (by unfold rowsOf; rw [List.length_map]; exact hlt)
   subst eg
   rw [hrow] at z0 hrr
   obtain ⟨t, r, hgr, ht, hf0, hf1⟩ := group_of HGA.out.1 hym
   obtain ⟨m, hm⟩ : ∃ m, (gIdx l l.length y).length = m := ⟨_, rfl⟩
   have HMM : Hid ((gIdx l l.length y).length = m ∧ 0 < m ∧ m ≤ 100000) := Lib.hid ⟨hm, by rw [← hm, hgr]; simp, by rw [← hm]; exact Nat.le_trans (gIdx_len l l.length y) hl⟩
   rw [hm] at z0 hrr
   have m0 : (0 : Int) < (m : Int) := by have := HMM.out.2.1; omega
   have HRR := Lib.hid hrr
   obtain ⟨ae, eb, q0⟩ := Kd.at_int (show Kd.C (Kd.int .i64) wr Ar m (gIdx l l.length y) by have h9 := (Kd.R_reads' hrr).2.2; rw [hm] at h9; exact h9) (0 : Int) (by decide) m0
   subst eb
   have q9 : rd (gIdx l l.length y) (0 : Int) = (t : Int) := by rw [hgr]; rfl
   rw [q9, show (0 : Int).toNat = 0 from rfl, show ae.add 0 = ae from by cases ae; simp [Addr.add]] at q0
   have t0 : (0 : Int) ≤ (t : Int) := by omega
   have t1 : (t : Int) < (l.length : Int) := by omega
   obtain ⟨ad, ea, y0, y1, y2⟩ := at_T76 (Kd.C_below HR.out HL.out.2.2.1) (t : Int) t0 t1
   subst ea
   obtain ⟨X, hX⟩ : ∃ X, X = mvAt l t := ⟨_, rfl⟩
   have hX2 : rd_T76 l (t : Int) = X := by rw [hX]; rfl
   rw [Int.toNat_natCast, hX2] at y0 y1 y2
   obtain ⟨T, hT⟩ : ∃ T, T = amt l y := ⟨_, rfl⟩
   have HY : Hid (hs[i]? = some y ∧ y ∈ hs ∧ X.f0 = y.f0 ∧ X.f1 = y.f1 ∧ T = amt l y ∧ hs.take (i + 1) = hs.take i ++ [y]) := Lib.hid ⟨hy, hym, by rw [hX]; exact hf0, by rw [hX]; exact hf1, hT, by rw [List.take_add_one, hy]; rfl⟩
   have HTOT : Hid (∀ W, Below w.heap.size w W → Kd.C (Kd.int .i64) W (some ae) m (gIdx l l.length y) → Calls Tryz.prog 72 #[.slice (some ad) l.length c, .slice (some ae) m cr, .func (.func 73) #[] #[]] W (SumAt (f2s l (gIdx l l.length y)) W)) := Lib.hid (fun W hW hC => by
    rw [← hm] at hC ⊢
    exact tot_walk (some ad) c l (some ae) cr _ W (Kd.C_below HR.out hW) hC (fun k hk => group_lt hk) HI.out (by rw [hm]; exact HMM.out.2.1) (by rw [hm]; exact HMM.out.2.2))
   have HRC : Hid (∀ W, Below wr.heap.size wr W → Kd.C (Kd.int .i64) W (some ae) m (gIdx l l.length y)) := Lib.hid (fun W hW => by
    have h9 := (Kd.R_reads' HRR.out).2.2
    rw [hm] at h9
    exact Kd.C_below h9 hW)
   have HSM : Hid (sumL (f2s l (gIdx l l.length y)) = T) := Lib.hid (by rw [group_sum, hT])
   clear hy hym hrow hrr hgr hf0 hf1 hm hX hX2 q9 hT ht
   obtain ⟨F, hF⟩ : ∃ F, fits T = F := ⟨_, rfl⟩
   cases F with
   |false =>
    have HF := Lib.hid hF
    clear hF
    go_wp2_with (go_at_call 72; go_loud ((with_reducible refine (HTOT.out _ ?s1 ?s2).mono ?_); (case s1 => exact below_alloc HL.out.2.2.1 _); (case s2 => exact HRC.out _ (below_alloc (Below.refl _ _) _)); intro e w2 hsum; obtain ⟨rfl, hb⟩ := SumAt.no hsum HSM.out HF.out; have HBW := Lib.hid (below_step (below_alloc (Below.refl wr.heap.size wr) (.cells #[.int .i64 X.f0, .int .i64 X.f1, .int .i64 X.f2] 76)) hb); have HBX := Lib.hid (blk_below (heap_alloc_new wr (.cells #[.int .i64 X.f0, .int .i64 X.f1, .int .i64 X.f2] 76)) hb); have b0 := (blk_cell HBX.out 0).trans rfl; have b1 := (blk_cell HBX.out 1).trans rfl; have b2 := (blk_cell HBX.out 2).trans rfl; have f2 := blk_frozen HBX.out 2; clear hsum hb))
    go_ret2
    refine ⟨below_step HL.out.2.2.1 (below_set HBW.out (Nat.le_refl _)), .inl ⟨rfl, y, ?_, by rw [← HY.out.2.2.2.2.1]; exact HF.out⟩⟩
    obtain ⟨k, hk, e⟩ := HGA.out.1.mem y HY.out.2.1
    rw [e]
    exact mvAt_mem hk
   |true =>
    have HF := Lib.hid hF
    clear hF
    by_cases c0 : T = 0
    ·have d1 : (T == 0) = true := beq_iff_eq.2 c0
     have d2 : (T != 0) = false := by rw [bne, d1]; rfl
     have HC := Lib.hid c0
     clear c0
     go_wp2_with (go_at_call 72; go_loud ((with_reducible refine (HTOT.out _ ?s1 ?s2).mono ?_); (case s1 => exact below_alloc HL.out.2.2.1 _); (case s2 => exact HRC.out _ (below_alloc (Below.refl _ _) _)); intro e w2 hsum; obtain ⟨rfl, hb⟩ := SumAt.yes hsum HSM.out HF.out; have HBW := Lib.hid (below_step (below_alloc (Below.refl wr.heap.size wr) (.cells #[.int .i64 X.f0, .int .i64 X.f1, .int .i64 X.f2] 76)) hb); have HBX := Lib.hid (blk_below (heap_alloc_new wr (.cells #[.int .i64 X.f0, .int .i64 X.f1, .int .i64 X.f2] 76)) hb); have b0 := (blk_cell HBX.out 0).trans rfl; have b1 := (blk_cell HBX.out 1).trans rfl; have b2 := (blk_cell HBX.out 2).trans rfl; have f2 := blk_frozen HBX.out 2; clear hsum hb))
     have HB3 : Hid (Below wr.heap.size wr (w2.setCell ⟨wr.heap.size, 2, none⟩ (.int .i64 T))) := Lib.hid (below_set HBW.out (Nat.le_refl _))
     go_roundg (hs.length - i)
     case measure => omega
     case rel => exact ⟨i + 1, Ao, co, by omega, by rw [HY.out.2.2.2.2.2, mAll_snoc, if_neg (by rw [← HY.out.2.2.2.2.1]; exact not_not_intro HC.out), List.append_nil], by go_num, by omega, Lib.hid (by
      rw [HY.out.2.2.2.2.2, mAll_snoc, if_neg (by rw [← HY.out.2.2.2.2.1]; exact not_not_intro HC.out), List.append_nil]
      refine ⟨Kd.S_below HL.out.1 HB3.out, Kd.R_below HL.out.2.1 HB3.out, below_step HL.out.2.2.1 HB3.out, fun z hz => ?_⟩
      rcases List.mem_append.1 hz with hz | hz
      ·exact HL.out.2.2.2 z hz
      ·rw [List.mem_singleton.1 hz, ← HY.out.2.2.2.2.1]
       exact HF.out)⟩
    ·have d1 : (T == 0) = false := beq_eq_false_iff_ne.2 c0
     have d2 : (T != 0) = true := by rw [bne, d1]; rfl
     have HC := Lib.hid c0
     have HLN : Hid ((mAll l (hs.take i)).length ≤ 1000000) := Lib.hid (by have h1 := mAll_len l (hs.take i); have h2 := HGA.out.2; have h3 : (hs.take i).length ≤ hs.length := by { rw [List.length_take]; omega }; omega)
     clear c0
     go_wp2_with (first
      |(go_at_call 72; go_loud ((with_reducible refine (HTOT.out _ ?s1 ?s2).mono ?_); (case s1 => exact below_alloc HL.out.2.2.1 _); (case s2 => exact HRC.out _ (below_alloc (Below.refl _ _) _)); intro e w2 hsum; obtain ⟨rfl, hb⟩ := SumAt.yes hsum HSM.out HF.out; have HBW := Lib.hid (below_step (below_alloc (Below.refl wr.heap.size wr) (.cells #[.int .i64 X.f0, .int .i64 X.f1, .int .i64 X.f2] 76)) hb); have HBX := Lib.hid (blk_below (heap_alloc_new wr (.cells #[.int .i64 X.f0, .int .i64 X.f1, .int .i64 X.f2] 76)) hb); have b0 := (blk_cell HBX.out 0).trans rfl; have b1 := (blk_cell HBX.out 1).trans rfl; have b2 := (blk_cell HBX.out 2).trans rfl; have f2 := blk_frozen HBX.out 2; clear hsum hb))
      |((with_reducible refine gate_dst (N := 38) rfl ?_); go_loud ((refine gA (w0 := w) (base := w.heap.size) mvApp (mAll l (hs.take i)) (⟨X.f0, X.f1, T⟩ : Mv) ?aO ?aB ?aS ?aL ?_); (case aO => exact Kd.R_below HL.out.2.1 (below_set HBW.out (Nat.le_refl _))); (case aB => exact below_step HL.out.2.2.1 (below_set HBW.out (Nat.le_refl _))); (case aS => exact (below_step HL.out.2.2.1 (below_set HBW.out (Nat.le_refl _))).size); (case aL => exact HLN.out); intro A1 c1 w9 ho hb hg; have HFF := Lib.hid (And.intro ho (And.intro hb (Kd.S_over' (Kd.S_below HL.out.1 (below_set HBW.out (Nat.le_refl _))) (Kd.R_typed (Kd.R_below HL.out.2.1 (below_set HBW.out (Nat.le_refl _)))) (by decide) hg))); clear ho hb hg)))
     go_roundg (hs.length - i)
     case measure => omega
     case rel => exact ⟨i + 1, A1, c1, by omega, by rw [HY.out.2.2.2.2.2, mAll_snoc, if_pos (by rw [← HY.out.2.2.2.2.1]; exact HC.out), List.length_append]; rfl, by go_num, by omega, Lib.hid (by
      have e9 : (⟨X.f0, X.f1, T⟩ : Mv) = mOf l y := by
       unfold mOf
       rw [HY.out.2.2.1, HY.out.2.2.2.1, HY.out.2.2.2.2.1]
      have h9 := HFF.out.1
      rw [e9] at h9
      rw [HY.out.2.2.2.2.2, mAll_snoc, if_pos (by rw [← HY.out.2.2.2.2.1]; exact HC.out), List.length_append]
      refine ⟨HFF.out.2.2, h9, HFF.out.2.1, fun z hz => ?_⟩
      rcases List.mem_append.1 hz with hz | hz
      ·exact HL.out.2.2.2 z hz
      ·rw [List.mem_singleton.1 hz, ← HY.out.2.2.2.2.1]
       exact HF.out)⟩
  ·have e : i = hs.length := by omega
   subst e
   have hl2 := HL.out
   rw [List.take_length] at hl2 ⊢
   have HE := Lib.hid hl2
   have HLN : Hid ((mAll l hs).length ≤ 1000000) := Lib.hid (by have := mAll_len l hs; have := HGA.out.2; omega)
   clear hl2
   obtain ⟨m, hm⟩ : ∃ m, (mAll l hs).length = m := ⟨_, rfl⟩
   have HMM := Lib.hid hm
   have HSRT : Hid (Calls Tryz.prog 74 #[.slice Ao m co, .func (.func 75) #[] #[]] wr fun e w' => e = .returned (.tuple #[]) ∧ ∃ ys : List Mv, ys.Perm (mAll l hs) ∧ ys.Pairwise (fun a b => ¬ mlt b a) ∧ Kd.R kMv 76 w' w.heap.size (fun _ => True) (.slice Ao (mAll l hs).length co) ys ∧ Below w.heap.size w w') := Lib.hid (by
    rw [← hm]
    exact sortmv_walk HE.out.2.1 HE.out.2.2.1 HE.out.2.2.1.size HLN.out)
   rw [hm]
   clear hm
   go_wp2_with (go_at_call 74; go_loud ((with_reducible refine (HSRT.out).mono ?_); rintro e w3 ⟨rfl, ys, hp, hs1, ho, hb⟩; have HF := Lib.hid (And.intro hp (And.intro hs1 (And.intro ho hb))); clear hp hs1 ho hb))
   go_ret2
   have hlen : ys.length = m := by rw [HF.out.1.length_eq, HMM.out]
   refine ⟨HF.out.2.2.2, .inr ⟨ys, Ao, co, by rw [hlen]; rfl, ?_, merged_of HGA.out.1 HE.out.2.2.2 HF.out.1 HF.out.2.1, ?_⟩⟩
   ·have h9 := HF.out.2.2.1
    rw [HMM.out, ← hlen] at h9
    exact h9
   ·rw [hlen, ← HMM.out]
    exact Nat.le_trans (mAll_len l hs) HGA.out.2
end Go.Proofs.YtcgdloldkcmhnaaGreat.H
end
section
namespace Go.Proofs.YtcgdloldkcmhnaaGreat.H
open Go Go.RowKit Go.Proofs.YtcgdloldkcmhnaaGreat.PrintC Go.Proofs.YtcgdloldkcmhnaaGreat.PrintE Go.Proofs.YtcgdloldkcmhnaaGreatW.PrintWords Go.Proofs.YtcgdloldkcmhnaaGreatW.PrintLast Go.Proofs.YtcgdloldkcmhnaaGreatW.PrintMore Go.Proofs.YtcgdloldkcmhnaaGreat.Flow
set_option linter.unusedVariables false
set_option linter.unusedSimpArgs false
def ToldAt (f : List Int) (mv : List Ent) (w : World) (e : Ending) (w' : World) : Prop := Below w.heap.size w w' ∧ ∃ (m : List Mv) (A1 : Option Addr) (c1 : Nat), e = .returned (.slice A1 m.length c1) ∧ Kd.R kMv 76 w' w.heap.size (fun _ => True) (.slice A1 m.length c1) m ∧ MgOf (toldL f mv) m ∧ m.length ≤ mv.length
theorem ranges_ne {W : World} {r b n cnt : Nat} {D : DataW Unit} {left : Lit → Bool} (h : W.ranges Tryz.prog 110 (plainElem Tryz.prog 3) b r n D left cnt) {g t : Nat} {cs : Array Value} (hg : W.heap[g]? = some (.cells cs t (0, 0))) : b ≠ g ∧ r ≠ g := by
 obtain ⟨es, clock, since, seen, c0, hb, _, _, _, hr, _⟩ := h
 constructor
 ·rintro rfl
  rw [hb] at hg
  cases hg
 ·rintro rfl
  rw [hr] at hg
  cases hg
theorem out_next {W W1 : World} {r base : Nat} {v : Value} {xs : List Mv} (h : Kd.R kMv 76 W base (fun _ => True) v xs) (hg : W.grownBy W1 (some r)) (hr : ∀ k cs t, W.heap[k]? = some (.cells cs t (0, 0)) → r ≠ k) : Kd.R kMv 76 W1 base (fun _ => True) v xs := by
 refine Kd.R_mono (Kd.R_step (Kd.R_tight rfl h) (fun k hk hlt => hg.block k hlt (fun e => ?_))) (fun _ _ => trivial)
 obtain ⟨cs, hcs⟩ := Kd.R_typed h k hk.symm
 injection e with e
 exact hr k _ _ hcs e.symm
theorem told_f2 {f : List Int} {mv : List Ent} (hb : ∀ x, x ∈ f → x ≤ 9223372036854775807) {m : Mv} (h : m ∈ toldL f mv) : 0 < m.f2 ∧ m.f2 ≤ 9223372036854775807 ∧ ∃ x, x ∈ mv ∧ m = ⟨x.1, x.2.1, rd f x.2.2⟩ := by
 unfold toldL at h
 obtain ⟨x, hx, h1⟩ := List.mem_flatMap.1 h
 unfold toldOf at h1
 split at h1
 ·rename_i h2
  have e := List.mem_singleton.1 h1
  subst e
  refine ⟨h2, ?_, x, hx, rfl⟩
  show rd f x.2.2 ≤ _
  unfold rd at h2 ⊢
  rw [List.getD_eq_getElem?_getD] at h2 ⊢
  cases c : f[x.2.2.toNat]? with
  |none => simp
  |some y => exact hb y (List.mem_of_getElem? c)
 ·cases h1
theorem len_le_of : ∀ {a b : List Ent}, a.Nodup → (∀ x, x ∈ a → x ∈ b) → a.length ≤ b.length
 |[], _, _, _ => Nat.zero_le _
 |x :: a, b, hn, hs => by
  obtain ⟨h1, h2⟩ := List.nodup_cons.1 hn
  have h3 := len_le_of (b := b.erase x) h2 (fun y hy => (List.mem_erase_of_ne (fun e => h1 (by rw [← e]; exact hy))).2 (hs y (List.mem_cons_of_mem _ hy)))
  have h4 := List.length_erase_of_mem (hs x (List.mem_cons_self ..))
  have h5 := List.length_pos_of_mem (hs x (List.mem_cons_self ..))
  rw [List.length_cons]
  omega
theorem amt_single : ∀ {l : List Mv}, l.Pairwise (fun a b => sameK a b = false) → ∀ {x : Mv}, x ∈ l → amt l x = x.f2
 |[], _, x, hx => nomatch hx
 |y :: l, hp, x, hx => by
  obtain ⟨h1, h2⟩ := List.pairwise_cons.1 hp
  have ns : ∀ {a b : Mv}, sameK a b = false → sameK b a = false := fun {a b} h => by
   cases c : sameK b a with
   |false => rfl
   |true =>
    rw [sameK_sym c] at h
    cases h
  by_cases e : sameK x y = true
  ·rcases List.mem_cons.1 hx with rfl | hx
   ·have h0 : l.filter (sameK x) = [] := List.filter_eq_nil_iff.2 (fun z hz => by rw [h1 z hz]; decide)
    unfold amt
    rw [List.filter_cons_of_pos e, h0]
    show x.f2 + 0 = x.f2
    omega
   ·rw [ns (h1 x hx)] at e
    cases e
  ·rcases List.mem_cons.1 hx with rfl | hx
   ·exact absurd (sameK_refl x) e
   ·have := amt_single h2 hx
    unfold amt at this ⊢
    rw [List.filter_cons_of_neg e]
    exact this
theorem told_apart {f : List Int} {mv : List Ent} (h : EntOk mv) : (toldL f mv).Pairwise (fun a b => sameK a b = false) := by
 unfold toldL
 rw [List.pairwise_flatMap]
 refine ⟨fun x _ => ?_, h.dst.imp (fun {x y} hxy a ha b hb => ?_)⟩
 ·unfold toldOf
  split
  ·exact List.pairwise_singleton _ _
  ·exact List.Pairwise.nil
 ·unfold toldOf at ha hb
  split at ha
  ·split at hb
   ·rw [List.mem_singleton.1 ha, List.mem_singleton.1 hb]
    cases c : sameK (⟨x.1, x.2.1, rd f x.2.2⟩ : Mv) ⟨y.1, y.2.1, rd f y.2.2⟩ with
    |false => rfl
    |true => exact absurd (sameK_iff.1 c) hxy
   ·cases hb
  ·cases ha
theorem told_moves {f : List Int} {mv dn : List Ent} (hm : EntOk mv) (hd : dn.Perm mv) (hb : ∀ x, x ∈ f → x ≤ 9223372036854775807) (hl : mv.length ≤ 100000) (A : Option Addr) (c : Nat) (w : World) (hr : Kd.C kMv w A (toldL f dn).length (toldL f dn)) :
  Calls Tryz.prog 40 #[.slice A (toldL f dn).length c] w fun e w' => ∃ (m : List Mv) (A1 : Option Addr) (c1 : Nat), e = .returned (.tuple #[.slice A1 m.length c1, .int .i64 0]) ∧ Below w.heap.size w w' ∧ Kd.R kMv 76 w' w.heap.size (fun _ => True) (.slice A1 m.length c1) m ∧ MgOf (toldL f mv) m ∧ m.length ≤ mv.length := by
 have hp := toldL_perm f hd
 have hlen : (toldL f dn).length ≤ mv.length := by rw [← hd.length_eq]; exact toldL_len f dn
 refine (moves_walk A c (toldL f dn) w hr (fun x hx => ?_) (fun x hx => ?_) (by omega)).mono ?_
 ·obtain ⟨-, -, y, hy, rfl⟩ := told_f2 hb (hp.mem_iff.1 hx)
  exact hm.wf hy
 ·obtain ⟨h1, h2, -⟩ := told_f2 hb (hp.mem_iff.1 hx)
  omega
 ·rintro e w' ⟨hbw, (⟨rfl, x, hx, hbad⟩ | ⟨m, A1, c1, rfl, hR, hmg, hml⟩)⟩
  ·have hx2 := hp.mem_iff.1 hx
   rw [amt_perm hp, amt_single (told_apart hm) hx2] at hbad
   obtain ⟨h1, h2, -⟩ := told_f2 hb hx2
   unfold fits at hbad
   rw [decide_eq_false_iff_not] at hbad
   omega
  ·exact ⟨m, A1, c1, rfl, hbw, hR, hmg.perm hp, by omega⟩
set_option maxHeartbeats 8000000 in
set_option maxRecDepth 100000 in
theorem told_walk (w0 : World) (gg : Nat) (N n : Int) (v : Value) (arcs : List Arc) (B : MB) (D : MD) (mv : List Ent) (Af : Option Addr) (cf : Nat) (f : List Int) (w : World) (h : GrI w0 gg N n v arcs B D w) (hD : D.m = putAll mv) (hm : EntOk mv) (hlm : mv.length ≤ 100000) (hf : Kd.C (Kd.int .i64) w Af f.length f) (hi : ∀ x, x ∈ mv → x.2.2 < f.length) (hb : ∀ x, x ∈ f → x ≤ 9223372036854775807) :
  Calls Tryz.prog 27 #[.pointer (some ⟨gg, 0, none⟩), .slice Af f.length cf] w (ToldAt f mv w) := by
 have HF := Lib.hid hf
 have HM := Lib.hid hm
 have HIX := Lib.hid (And.intro hi (And.intro hb hlm))
 have hmp := h.mm
 rw [hD] at hmp
 have HMP := Lib.hid hmp
 have y3 := pw_cell_below (below_alloc (Below.refl _ _) (.cells #[] 76)) h.cells.2.2.2.1
 have hu := Tryz.underlying110
 clear hf hm hi hb hlm hmp h hD
 go_enter Tryz.func27, Tryz.ntmps27
 go_wp2_with (at_range; refine wpList_range_own _ rfl _ 123 rfl 110 3 slotLaw Tryz.underlying123 _ B.m D.km (putAll mv) rfl (mapAs_eq HMP.out ((below_alloc (Below.refl w.heap.size w) (.cells #[] 76)).block _ HMP.out.lt)) ?_; intro w1 hrg hg hs; have hb1 : Below w.heap.size w w1 := pw_below_grown (below_alloc (Below.refl _ _) _) _ (by rw [alloc_size]; exact Nat.le_succ _) hg (fun k e => nomatch e); have HX : Hid (w1.ranges Tryz.prog 110 (plainElem Tryz.prog 3) B.m (w.heap.size + 1) D.km (putAll mv) (Maps.has (putAll mv)) (Maps.size (putAll mv)) ∧ Kd.R kMv 76 w1 w.heap.size (fun _ => True) (.slice (some ⟨w.heap.size, 0, none⟩) (toldL f []).length 0) (toldL f []) ∧ Below w.heap.size w w1) := Lib.hid ⟨(by have h9 := hrg; rw [alloc_size] at h9; exact h9), Kd.R_below (mv_empty (heap_alloc_new w _) (Nat.le_refl _)) ⟨hg.os, hg.tape, hg.output, hg.size, fun k hk => hg.block k hk (by simp)⟩, hb1⟩; clear hrg hg hs hb1; rw [alloc_size])
 go_frame
 clear y3
 go_loopg [5] (Maps.size (putAll mv)) (fun k ov W => ∃ (dn : List Ent) (left : Lit → Bool) (Ao : Option Addr) (co : Nat), ov = .slice Ao (toldL f dn).length co ∧ Hid (W.ranges Tryz.prog 110 (plainElem Tryz.prog 3) B.m (w.heap.size + 1) D.km (putAll mv) left k ∧ LeftI mv dn left ∧ dn.Nodup ∧ (∀ x, x ∈ dn → x ∈ mv) ∧ Kd.R kMv 76 W w.heap.size (fun _ => True) (.slice Ao (toldL f dn).length co) (toldL f dn) ∧ Below w.heap.size w W))
 case atStart => exact ⟨[], _, _, _, rfl, Lib.hid ⟨HX.out.1, LeftI.start HM.out, List.nodup_nil, fun x hx => by simp at hx, HX.out.2.1, HX.out.2.2⟩⟩
 case round =>
  obtain ⟨dn, left, Ao, co, rfl, HL⟩ := hrel
  clear HX
  go_wp2_with (first
   |(at_next; refine wpList_next_ranges wr rfl _ rfl 110 slotLaw (plainElem Tryz.prog 3) id id (fun key _ _ => ⟨key, rfl⟩) (fun v _ _ => ⟨v, rfl⟩) B.m (w.heap.size + 1) D.km (putAll mv) left gk rfl HL.out.1 ?gD ?gM; (case' gD => (intro hc0 hl0; have HDN := Lib.hid (HL.out.2.1.done HM.out HL.out.2.2.1 HL.out.2.2.2.1 hl0); clear hc0 hl0)); (case' gM => (intro key v kl y w9 cnt hkey hlk hv hat hrg hlt hg hsz hen; simp only [id_eq] at hkey hv hen ⊢; obtain ⟨x, hx, hxn, hxe⟩ := (HL.out.2.1 kl).1 hlk; subst hxe; have hk9 := slotLaw.inj hkey (slotKeyOf x.1 x.2.1 (HM.out.wf hx).1 (HM.out.wf hx).2); subst hk9; obtain ⟨c9, rfl, hy9, -⟩ := plainElem_int_inv Tryz.underlying3 hv; obtain rfl : c9 = x.2.2 := (by have h8 := hat (.map []); rw [(putAll_at HM.out hx (.map [])).1, hy9] at h8; injection h8 with h8; injection h8 with _ h8; exact h8.symm); have HX := Lib.hid (And.intro hx hxn); have HRG := Lib.hid (And.intro hrg (And.intro hlt (And.intro (LeftI.step HM.out HL.out.2.1 hx) (And.intro (out_next HL.out.2.2.2.2.1 hg (fun k cs t hk => (ranges_ne HL.out.1 hk).2)) (pw_below_grown HL.out.2.2.2.2.2 _ HL.out.2.2.2.2.2.size hg (fun k e => by injection e with e; omega)))))); obtain ⟨xa, xz, xi⟩ := x; simp only at hen ⊢; have hsm := HM.out.small _ hx; have hxl := HIX.out.1 _ hx; simp only at hsm hxl; have i0 : (0 : Int) ≤ xi := hsm.2.2.1; have i1 : xi < (f.length : Int) := hxl; obtain ⟨ae, ea, z0⟩ := Kd.at_int (Kd.C_below HF.out HRG.out.2.2.2.2) xi i0 i1; subst ea; have z1 := pw_cell_below (below_alloc (Below.refl _ _) (.cells #[.int .i64 xa, .int .i64 xz] 110)) z0; clear hx hxn hkey hlk hv hat hrg hlt hg hsz hy9 hsm hxl z0; obtain ⟨gv, hgv⟩ : ∃ gv, gv = rd f xi := ⟨_, rfl⟩; rw [← hgv] at z1; have HGV := Lib.hid hgv; clear hgv; by_cases c0 : 0 < gv)))
   |(go_at_call 40; go_loud ((with_reducible refine (told_moves HM.out HDN.out HIX.out.2.1 HIX.out.2.2 Ao co _ ?s1).mono ?_); (case s1 => exact (Kd.R_reads' HL.out.2.2.2.2.1).2.2); rintro e w3 ⟨m, A1, c1, rfl, hb, hR, hmg, hml⟩; have HF2 := Lib.hid (And.intro (below_step HL.out.2.2.2.2.2 hb) (And.intro (Kd.R_lower hR HL.out.2.2.2.2.2.size) (And.intro hmg hml))); clear hb hR hmg hml)))
  ·have hcc : (w9.alloc (.cells #[.int .i64 xa, .int .i64 xz] 110)).drew.cell? ⟨w9.heap.size, 0, none⟩ = some (.int .i64 xa) ∧ (w9.alloc (.cells #[.int .i64 xa, .int .i64 xz] 110)).drew.cell? ⟨w9.heap.size, 1, none⟩ = some (.int .i64 xz) ∧ (w9.alloc (.cells #[.int .i64 xa, .int .i64 xz] 110)).drew.cell? (ae.add xi.toNat) = some (.int .i64 gv) := ⟨by simp, by simp, z1⟩
   have hbb : Below w9.heap.size w9 (w9.alloc (.cells #[.int .i64 xa, .int .i64 xz] 110)).drew := below_drew (below_alloc (Below.refl _ _) _)
   have HB := Lib.hid (And.intro (Kd.R_below HRG.out.2.2.2.1 hbb) (And.intro (below_step HRG.out.2.2.2.2 hbb) (HRG.out.1.kept (row := none) ⟨hbb.os, hbb.tape, hbb.output, hbb.size, fun k hk _ => hbb.block k hk⟩ (by simp) (by simp))))
   have HLEN : Hid ((toldL f dn).length ≤ 1000000) := Lib.hid (by have h1 := toldL_len f dn; have h2 := HIX.out.2.2; have h3 : dn.length ≤ mv.length := len_le_of HL.out.2.2.1 HL.out.2.2.2.1; omega)
   clear hbb z1
   refine stepS (S := fun w' => w'.cell? ⟨w9.heap.size, 0, none⟩ = some (.int .i64 xa) ∧ w'.cell? ⟨w9.heap.size, 1, none⟩ = some (.int .i64 xz) ∧ w'.cell? (ae.add xi.toNat) = some (.int .i64 gv)) (ds := [11]) 13 (by kernel_rfl) rfl hcc (fun hHeld => ?_)
   generalize (w9.alloc (.cells #[.int .i64 xa, .int .i64 xz] 110)).drew = wd at HB hHeld ⊢
   clear hcc
   repeat (first | refine rP 13 ?_ | refine rT 13 hHeld ?_)
   refine sB 10 hHeld (fun hHeld => ?_)
   refine sA 11 mvApp (toldL f dn) ⟨xa, xz, gv⟩ HB.out.1 HB.out.2.1 HB.out.2.1.size HLEN.out (fun A1 c1 w8 ho hb hg => ?_)
   refine sN ?_
   refine rP 13 ?_
   refine done_ (by kernel_rfl) ?_
   have HF2 := Lib.hid (And.intro ho (And.intro hb (HB.out.2.2.kept hg (fun e => by
    obtain ⟨cs, hcs⟩ := Kd.R_typed HB.out.1 _ e.symm
    exact (ranges_ne HB.out.2.2 hcs).1 rfl) (fun e => by
    obtain ⟨cs, hcs⟩ := Kd.R_typed HB.out.1 _ e.symm
    exact (ranges_ne HB.out.2.2 hcs).2 rfl))))
   have HC0 := Lib.hid c0
   clear ho hb hg hHeld c0
   go_wp2
   go_roundg cnt
   case measure => exact HRG.out.2.1
   case rel =>
    have e9 : toldL f (dn ++ [(xa, xz, xi)]) = toldL f dn ++ [⟨xa, xz, gv⟩] := by
     rw [toldL_snoc]
     unfold toldOf
     simp only
     rw [← HGV.out, if_pos HC0.out]
    refine ⟨dn ++ [(xa, xz, xi)], _, A1, c1, by rw [e9, List.length_append]; rfl, Lib.hid ⟨HF2.out.2.2, HRG.out.2.2.1, ?_, ?_, by rw [e9, List.length_append]; exact HF2.out.1, HF2.out.2.1⟩⟩
    ·exact List.nodup_append.2 ⟨HL.out.2.2.1, List.pairwise_singleton _ _, fun a ha b hb => by rw [List.mem_singleton.1 hb]; exact fun e => HX.out.2 (by rw [← e]; exact ha)⟩
    ·intro y hy
     rcases List.mem_append.1 hy with hy | hy
     ·exact HL.out.2.2.2.1 y hy
     ·rw [List.mem_singleton.1 hy]
      exact HX.out.1
  ·have HC0 := Lib.hid c0
   clear c0
   go_roundg cnt
   case measure => exact HRG.out.2.1
   case rel =>
    have e9 : toldL f (dn ++ [(xa, xz, xi)]) = toldL f dn := by
     rw [toldL_snoc]
     unfold toldOf
     simp only
     rw [← HGV.out, if_neg (by have := HC0.out; omega), List.append_nil]
    have hbb : Below w9.heap.size w9 (w9.alloc (.cells #[.int .i64 xa, .int .i64 xz] 110)) := below_alloc (Below.refl _ _) _
    refine ⟨dn ++ [(xa, xz, xi)], _, Ao, co, by rw [e9], Lib.hid ⟨HRG.out.1.alloc _, HRG.out.2.2.1, ?_, ?_, by rw [e9]; exact Kd.R_below HRG.out.2.2.2.1 hbb, below_step HRG.out.2.2.2.2 hbb⟩⟩
    ·exact List.nodup_append.2 ⟨HL.out.2.2.1, List.pairwise_singleton _ _, fun a ha b hb => by rw [List.mem_singleton.1 hb]; exact fun e => HX.out.2 (by rw [← e]; exact ha)⟩
    ·intro y hy
     rcases List.mem_append.1 hy with hy | hy
     ·exact HL.out.2.2.2.1 y hy
     ·rw [List.mem_singleton.1 hy]
      exact HX.out.1
  ·go_ret
   exact ⟨HF2.out.1, m, A1, c1, rfl, HF2.out.2.1, HF2.out.2.2⟩
end Go.Proofs.YtcgdloldkcmhnaaGreat.H
end
section
namespace Go.Proofs.YtcgdloldkcmhnaaGreat.H
open Go Go.RowKit Go.Proofs.YtcgdloldkcmhnaaGreat.PrintC Go.Proofs.YtcgdloldkcmhnaaGreat.PrintE Go.Proofs.YtcgdloldkcmhnaaGreatW.PrintWords Go.Proofs.YtcgdloldkcmhnaaGreatW.PrintLast Go.Proofs.YtcgdloldkcmhnaaGreatW.PrintMore
set_option linter.unusedVariables false
set_option linter.unusedSimpArgs false
def arcOf (l : List Arc) (x : Mv) : Arc := rd_T104 l x.f0
def stock1 (l : List Arc) (v z : Int) (x : Mv) : Int := (if (arcOf l x).f1 = v ∧ x.f1 + (arcOf l x).f3 ≤ z then x.f2 else 0) - (if (arcOf l x).f0 = v ∧ x.f1 ≤ z then x.f2 else 0)
def stockV (l : List Arc) (m : List Mv) (v z : Int) : Int := sumL (m.map (stock1 l v z))
structure MvIn (l : List Arc) (x : Mv) : Prop where
 a0 : 0 ≤ x.f0
 a1 : x.f0 < l.length
 t0 : 0 ≤ x.f1
 t1 : x.f1 ≤ 100000
 n0 : 0 ≤ x.f2
 n1 : x.f2 ≤ 1099511627776
theorem stock_bd {l : List Arc} {v z : Int} : ∀ {m : List Mv}, (∀ x, x ∈ m → MvIn l x) → -(m.length * 1099511627776 : Int) ≤ stockV l m v z ∧ stockV l m v z ≤ m.length * 1099511627776
 |[], _ => by
  show -(0 * 1099511627776 : Int) ≤ 0 ∧ (0 : Int) ≤ 0 * 1099511627776
  decide
 |x :: m, h => by
  have h1 := stock_bd (v := v) (z := z) (m := m) (fun y hy => h y (List.mem_cons_of_mem _ hy))
  have h2 := h x (List.mem_cons_self ..)
  have h3 := h2.n0
  have h4 := h2.n1
  have h5 : -1099511627776 ≤ stock1 l v z x ∧ stock1 l v z x ≤ 1099511627776 := by
   unfold stock1
   split <;> split <;> omega
  unfold stockV at h1 ⊢
  rw [List.map_cons, sumL, List.length_cons]
  omega
theorem stock_snoc (l : List Arc) (v z : Int) {m : List Mv} {i : Nat} (h : i < m.length) : stockV l (m.take (i + 1)) v z = stockV l (m.take i) v z + stock1 l v z (mvAt m i) := by
 unfold stockV
 rw [mvAt_take h, List.map_append]
 exact sumL_snoc _ _
def stT6 : Bool × List (List Nat × List Nat) := (true, [([], []), ([0], [0]), ([], []), ([1, 2], [1, 2]), ([3], [3]), ([4], [4]), ([4], [4]), ([5, 6, 4], [4, 5, 6]), ([7, 4], [4, 7]), ([8, 4], [4, 8]), ([4], [4]), ([10, 4], [4, 10]), ([9, 11, 4], [4, 9, 11]), ([4], [4]), ([12, 13, 4], [4, 12, 13]), ([4, 14], [4, 14])])
set_option maxHeartbeats 8000000 in
set_option maxRecDepth 100000 in
theorem rstock_walk (n : Int) (b : Bool) (A : Option Addr) (c : Nat) (l : List Arc) (Am : Option Addr) (cm : Nat) (m : List Mv) (v z K : Int) (hK : K = stockV l m v z) (w : World) (hr : Kd.C k104 w A l.length l) (hm : Kd.C kMv w Am m.length m) (hok : ∀ x, x ∈ m → MvIn l x) (hti : ∀ i : Int, 0 ≤ i → i < l.length → 0 ≤ (rd_T104 l i).f3 ∧ (rd_T104 l i).f3 ≤ 1048576) (hml : m.length ≤ 100000) :
  Calls Tryz.prog 29 #[.agg #[.int .i64 n, .bool b, .slice A l.length c], .slice Am m.length cm, .int .i64 v, .int .i64 z] w fun e w' => e = .returned (.int .i64 K) ∧ Below w.heap.size w w' := by
 have hu := Tryz.underlying33
 have hu2 := Tryz.underlying76
 have hu3 := Tryz.underlying104
 have HR := Lib.hid hr
 have HM := Lib.hid hm
 have HOK := Lib.hid hok
 have HTI := Lib.hid hti
 have HK := Lib.hid hK
 clear hr hm hok hti hK
 go_enter Tryz.func29, Tryz.ntmps29
 obtain ⟨w1, hw1⟩ : ∃ w1, w1 = w.alloc (.cells #[.int .i64 n, .bool b, .slice A l.length c] 33) := ⟨_, rfl⟩
 have HX : Hid (w1.heap[w.heap.size]? = some (.cells #[.int .i64 n, .bool b, .slice A l.length c] 33 (0, 0)) ∧ Below w.heap.size w w1) := Lib.hid (by rw [hw1]; exact ⟨heap_alloc_new _ _, below_alloc (Below.refl _ _) _⟩)
 go_wp2
 rw [← hw1]
 clear hw1
 go_loopg [9, 10] (m.length + 1) (fun k kv iv W => ∃ i : Nat, i ≤ m.length ∧ kv = .int .i64 (stockV l (m.take i) v z) ∧ iv = .int .i64 i ∧ k = m.length + 1 - i ∧ Hid (W.heap[w.heap.size]? = some (.cells #[.int .i64 n, .bool b, .slice A l.length c] 33 (0, 0)) ∧ Below w.heap.size w W))
 case atStart => exact ⟨0, Nat.zero_le _, rfl, rfl, rfl, HX⟩
 case round =>
  obtain ⟨i, hi, rfl, rfl, rfl, HL⟩ := hrel
  clear HX
  by_cases hlt : i < m.length
  ·have i0 : (0 : Int) ≤ (i : Int) := by omega
   have i1 : (i : Int) < (m.length : Int) := by omega
   have hbd := stock_bd (v := v) (z := z) (m := m.take i) (fun x hx => HOK.out x (List.mem_of_mem_take hx))
   rw [List.length_take, Nat.min_eq_left hi] at hbd
   obtain ⟨X, hX⟩ : ∃ X, X = mvAt m i := ⟨_, rfl⟩
   have hXi := HOK.out X (by rw [hX]; exact mvAt_mem hlt)
   have a0 := hXi.a0
   have a1 := hXi.a1
   have t0 := hXi.t0
   have t1 := hXi.t1
   have n0 := hXi.n0
   have n1 := hXi.n1
   obtain ⟨ad, ea, -⟩ := at_T76 HM.out (i : Int) i0 i1
   subst ea
   obtain ⟨ae, eb, -⟩ := at_T104 HR.out X.f0 a0 a1
   subst eb
   have CM : Hid (∀ W, Below w.heap.size w W → W.cell? (ad.add (i * 3)) = some (.int .i64 X.f0) ∧ W.cell? ⟨(ad.add (i * 3)).block, (ad.add (i * 3)).off + 1, none⟩ = some (.int .i64 X.f1) ∧ W.cell? ⟨(ad.add (i * 3)).block, (ad.add (i * 3)).off + 2, none⟩ = some (.int .i64 X.f2)) := Lib.hid (fun W hW => by
    obtain ⟨ad2, e2, z0, z1, z2⟩ := at_T76 (Kd.C_below HM.out hW) (i : Int) i0 i1
    injection e2 with e2
    subst e2
    rw [Int.toNat_natCast] at z0 z1 z2
    rw [hX]
    exact ⟨z0, z1, z2⟩)
   obtain ⟨Y, hY⟩ : ∃ Y, Y = arcOf l X := ⟨_, rfl⟩
   have hY2 : rd_T104 l X.f0 = Y := by rw [hY]; rfl
   obtain ⟨ae2, e2, y0, y1, y2, y3⟩ := at_T104 (Kd.C_drew (Kd.C_below HR.out HL.out.2)) X.f0 a0 a1
   injection e2 with e2
   subst e2
   have hy3 := HTI.out X.f0 a0 a1
   rw [hY2] at y0 y1 y2 y3 hy3
   have HS := Lib.hid (stock_snoc l v z hlt)
   rw [← hX] at HS
   have HST : Hid (stock1 l v z X = (if Y.f1 = v ∧ X.f1 + Y.f3 ≤ z then X.f2 else 0) - (if Y.f0 = v ∧ X.f1 ≤ z then X.f2 else 0)) := Lib.hid (by rw [hY]; rfl)
   obtain ⟨T, hT⟩ : ∃ T, T = stockV l (m.take i) v z := ⟨_, rfl⟩
   rw [← hT] at hbd HS ⊢
   obtain ⟨x0, -, -⟩ := CM.out _ (below_drew1 HL.out.2)
   have z2 : wr.drew.cell? ⟨w.heap.size, 2, none⟩ = some (.slice (some ae) l.length c) := (blk_cell (blk_drew HL.out.1) 2).trans rfl
   have HO := Lib.hid (And.intro (blk_drew HL.out.1) (below_drew1 HL.out.2))
   clear hX hY hY2 hT HL hXi
   go_wp2
   refine stepS (S := fun w' => w'.cell? ⟨w.heap.size, 2, none⟩ = some (.slice (some ae) l.length c) ∧ w'.cell? (ad.add (i * 3)) = some (.int .i64 X.f0) ∧ w'.cell? (ae.add (X.f0.toNat * 4)) = some (.int .i64 Y.f0) ∧ w'.cell? ⟨(ae.add (X.f0.toNat * 4)).block, (ae.add (X.f0.toNat * 4)).off + 1, none⟩ = some (.int .i64 Y.f1) ∧ w'.cell? ⟨(ae.add (X.f0.toNat * 4)).block, (ae.add (X.f0.toNat * 4)).off + 2, none⟩ = some (.int .i64 Y.f2) ∧ w'.cell? ⟨(ae.add (X.f0.toNat * 4)).block, (ae.add (X.f0.toNat * 4)).off + 3, none⟩ = some (.int .i64 Y.f3)) (ds := [10]) 11 (by kernel_rfl) rfl ⟨z2, x0, y0, y1, y2, y3⟩ (fun hHeld => ?_)
   generalize wr.drew = wd at HO hHeld ⊢
   clear z2 x0 y0 y1 y2 y3
   repeat (first | refine rP 11 ?_ | refine rT 11 hHeld ?_)
   refine sB 9 hHeld (fun hHeld => ?_)
   refine sS 10 ?_
   refine done_ (by kernel_rfl) ?_
   obtain ⟨we, hwe⟩ : ∃ we, we = wd.alloc (.cells #[.int .i64 Y.f0, .int .i64 Y.f1, .int .i64 Y.f2, .int .i64 Y.f3] 104) := ⟨_, rfl⟩
   have HX : Hid (we.heap[wd.heap.size]? = some (.cells #[.int .i64 Y.f0, .int .i64 Y.f1, .int .i64 Y.f2, .int .i64 Y.f3] 104 (0, 0)) ∧ we.heap[w.heap.size]? = some (.cells #[.int .i64 n, .bool b, .slice (some ae) l.length c] 33 (0, 0)) ∧ Below w.heap.size w we) := Lib.hid (by rw [hwe]; exact ⟨heap_alloc_new _ _, blk_alloc HO.out.1 _, below_alloc HO.out.2 _⟩)
   rw [← hwe]
   clear hwe hHeld HO
   generalize wd.heap.size = g at HX ⊢
   obtain ⟨dA, hdA⟩ : ∃ dA, dA = (if Y.f1 = v ∧ X.f1 + Y.f3 ≤ z then X.f2 else 0) := ⟨_, rfl⟩
   obtain ⟨dB, hdB⟩ : ∃ dB, dB = (if Y.f0 = v ∧ X.f1 ≤ z then X.f2 else 0) := ⟨_, rfl⟩
   rw [← hdA, ← hdB] at HST
   have hA : ((Y.f1 == v) = false ∧ Hid (dA = 0)) ∨ ((Y.f1 == v) = true ∧ ¬ X.f1 + Y.f3 ≤ z ∧ Hid (dA = 0)) ∨ ((Y.f1 == v) = true ∧ X.f1 + Y.f3 ≤ z ∧ Hid (dA = X.f2)) := by
    by_cases h1 : Y.f1 = v
    ·by_cases h2 : X.f1 + Y.f3 ≤ z
     ·exact .inr (.inr ⟨beq_iff_eq.2 h1, h2, Lib.hid (by rw [hdA, if_pos ⟨h1, h2⟩])⟩)
     ·exact .inr (.inl ⟨beq_iff_eq.2 h1, h2, Lib.hid (by rw [hdA, if_neg (fun e => h2 e.2)])⟩)
    ·exact .inl ⟨beq_eq_false_iff_ne.2 h1, Lib.hid (by rw [hdA, if_neg (fun e => h1 e.1)])⟩
   have hB : ((Y.f0 == v) = false ∧ Hid (dB = 0)) ∨ ((Y.f0 == v) = true ∧ ¬ X.f1 ≤ z ∧ Hid (dB = 0)) ∨ ((Y.f0 == v) = true ∧ X.f1 ≤ z ∧ Hid (dB = X.f2)) := by
    by_cases h1 : Y.f0 = v
    ·by_cases h2 : X.f1 ≤ z
     ·exact .inr (.inr ⟨beq_iff_eq.2 h1, h2, Lib.hid (by rw [hdB, if_pos ⟨h1, h2⟩])⟩)
     ·exact .inr (.inl ⟨beq_iff_eq.2 h1, h2, Lib.hid (by rw [hdB, if_neg (fun e => h2 e.2)])⟩)
    ·exact .inl ⟨beq_eq_false_iff_ne.2 h1, Lib.hid (by rw [hdB, if_neg (fun e => h1 e.1)])⟩
   clear hdA hdB
   go_wp2
   have y0 : we.drew.cell? ⟨g, 0, none⟩ = some (.int .i64 Y.f0) := (blk_cell (blk_drew HX.out.1) 0).trans rfl
   have y1 : we.drew.cell? ⟨g, 1, none⟩ = some (.int .i64 Y.f1) := (blk_cell (blk_drew HX.out.1) 1).trans rfl
   have y3 : we.drew.cell? ⟨g, 3, none⟩ = some (.int .i64 Y.f3) := (blk_cell (blk_drew HX.out.1) 3).trans rfl
   obtain ⟨-, x1, x2⟩ := CM.out _ (below_drew1 HX.out.2.2)
   refine stepS (S := fun w' => w'.cell? ⟨g, 1, none⟩ = some (.int .i64 Y.f1) ∧ w'.cell? ⟨g, 3, none⟩ = some (.int .i64 Y.f3) ∧ w'.cell? ⟨(ad.add (i * 3)).block, (ad.add (i * 3)).off + 1, none⟩ = some (.int .i64 X.f1)) (ds := []) 16 (by kernel_rfl) rfl ⟨y1, y3, x1⟩ (fun hHeld => ?_)
   have HF := Lib.hid (And.intro (blk_drew HX.out.2.1) (below_drew1 HX.out.2.2))
   generalize we.drew = wf at HF hHeld y0 y1 y3 x1 x2 ⊢
   clear HX
   have e5 : IntKind.i64.wrap (X.f1 + Y.f3) = X.f1 + Y.f3 := IntWalk.i64_in _ (by omega)
   refine wT stT6 (fun hT => ?_)
   rcases hA with ⟨g1, HDA⟩ | ⟨g1, g2, HDA⟩ | ⟨g1, g2, HDA⟩
   all_goals
    as_aux_lemma =>
     repeat (first | refine qP 16 hT ?_ | refine qT 16 hT hHeld ?_)
     refine done_ (by kernel_rfl) ?_
     clear hHeld hT
     rcases hB with ⟨g3, HDB⟩ | ⟨g3, g4, HDB⟩ | ⟨g3, g4, HDB⟩
     all_goals (try (exfalso; omega))
     all_goals
      go_wp2
      go_roundg (m.length - i)
      case measure => omega
      case rel => exact ⟨i + 1, by omega, by rw [HS.out, HST.out, HDA.out, HDB.out]; go_num, by go_num, by omega, HF⟩
  ·have e : i = m.length := by omega
   subst e
   rw [List.take_length, ← HK.out]
   go_wp2
   go_ret
   exact ⟨rfl, HL.out.2⟩
end Go.Proofs.YtcgdloldkcmhnaaGreat.H
end
section
namespace Go.Proofs.YtcgdloldkcmhnaaGreat.H
open Go Go.RowKit Go.Proofs.YtcgdloldkcmhnaaGreat.PrintC Go.Proofs.YtcgdloldkcmhnaaGreat.PrintE Go.Proofs.YtcgdloldkcmhnaaGreatW.PrintWords Go.Proofs.YtcgdloldkcmhnaaGreat.Flow
set_option linter.unusedVariables false
structure BOk (l : List Arc) (use : Arc → Bool) (keeps : Nat → Bool) (n h : Nat) (s : BSt) : Prop where
 sum : ∀ g : Nat → Int, sumN s.arcs.length g = sumL (s.mv.map fun x => g x.2.2.toNat) + sumL (s.wt.map fun x => g x.2.2.toNat)
 mv : ∀ x, x ∈ s.mv → ∃ j a k : Nat, x = ((j : Int), (a : Int), (k : Int)) ∧ j < l.length ∧ (a : Int) + (arcAt l j).f3 ≤ h ∧ use (arcAt l j) = true ∧ k < s.arcs.length ∧ arcAt s.arcs k = ⟨(a : Int) * n + (arcAt l j).f0, ((a : Int) + (arcAt l j).f3) * n + (arcAt l j).f1, (arcAt l j).f2, 0⟩
 wt : ∀ x, x ∈ s.wt → ∃ v a k : Nat, x = ((v : Int), (a : Int), (k : Int)) ∧ v < n ∧ a < h ∧ keeps v = true ∧ k < s.arcs.length ∧ arcAt s.arcs k = ⟨(a : Int) * n + v, ((a : Int) + 1) * n + v, 1099511627776, 0⟩
 apart : s.mv.Pairwise (fun x y => ¬ (x.1 = y.1 ∧ x.2.1 = y.2.1))
def BLt (a j : Nat) (s : BSt) : Prop := ∀ x, x ∈ s.mv → x.2.1 < a ∨ (x.2.1 = a ∧ x.1 < j)
section
variable {l : List Arc} {use : Arc → Bool} {keeps : Nat → Bool} {n h : Nat}
theorem bM_is {s : BSt} {a : Nat} (hs : BOk l use keeps n h s) (hl : BLt a 0 s) : ∀ j, j ≤ l.length → BOk l use keeps n h (bM l use n h a s j) ∧ BLt a j (bM l use n h a s j)
 |0, _ => ⟨hs, hl⟩
 |j + 1, hj => by
  obtain ⟨h1, h2⟩ := bM_is hs hl j (by omega)
  unfold bM
  simp only
  generalize bM l use n h a s j = t at h1 h2 ⊢
  split
  ·rename_i hc
   refine ⟨⟨fun g => ?_, fun x hx => ?_, fun x hx => ?_, ?_⟩, fun x hx => ?_⟩
   ·rw [List.length_append, List.map_append, List.length_singleton, sumN, h1.sum g]
    show _ = sumL ((t.mv.map fun x => g x.2.2.toNat) ++ [g t.arcs.length]) + sumL (t.wt.map fun x => g x.2.2.toNat)
    rw [sumL_snoc]
    omega
   ·rcases List.mem_append.1 hx with hx | hx
    ·obtain ⟨j', a', k, e, q1, q2, q3, q4, q5⟩ := h1.mv x hx
     exact ⟨j', a', k, e, q1, q2, q3, by rw [List.length_append]; omega, by rw [arcAt_append q4]; exact q5⟩
    ·exact ⟨j, a, t.arcs.length, List.mem_singleton.1 hx, hj, hc.1, hc.2, by simp, arcAt_last _ _⟩
   ·obtain ⟨v', a', k, e, q1, q2, q3, q4, q5⟩ := h1.wt x hx
    exact ⟨v', a', k, e, q1, q2, q3, by rw [List.length_append]; omega, by rw [arcAt_append q4]; exact q5⟩
   ·refine List.pairwise_append.2 ⟨h1.apart, List.pairwise_singleton _ _, fun x hx y hy => ?_⟩
    rw [List.mem_singleton.1 hy]
    rintro ⟨e1, e2⟩
    simp only at e1 e2
    rcases h2 x hx with q | q <;> omega
   ·rcases List.mem_append.1 hx with hx | hx
    ·rcases h2 x hx with q | q
     ·exact .inl q
     ·exact .inr ⟨q.1, by omega⟩
    ·rw [List.mem_singleton.1 hx]
     exact .inr ⟨rfl, by show (j : Int) < ((j + 1 : Nat) : Int); omega⟩
  ·refine ⟨h1, fun x hx => ?_⟩
   rcases h2 x hx with q | q
   ·exact .inl q
   ·exact .inr ⟨q.1, by omega⟩
theorem bW_is {s : BSt} {a : Nat} (hs : BOk l use keeps n h s) : ∀ v, v ≤ n → BOk l use keeps n h (bW keeps n h a s v) ∧ (bW keeps n h a s v).mv = s.mv
 |0, _ => ⟨hs, rfl⟩
 |v + 1, hv => by
  obtain ⟨h1, h2⟩ := bW_is (a := a) hs v (by omega)
  unfold bW
  simp only
  generalize bW keeps n h a s v = t at h1 h2 ⊢
  split
  ·rename_i hc
   refine ⟨⟨fun g => ?_, fun x hx => ?_, fun x hx => ?_, h1.apart⟩, h2⟩
   ·rw [List.length_append, List.map_append, List.length_singleton, sumN, h1.sum g]
    show _ = sumL (t.mv.map fun x => g x.2.2.toNat) + sumL ((t.wt.map fun x => g x.2.2.toNat) ++ [g t.arcs.length])
    rw [sumL_snoc]
    omega
   ·obtain ⟨v', a', k, e, q1, q2, q3, q4, q5⟩ := h1.mv x hx
    exact ⟨v', a', k, e, q1, q2, q3, by rw [List.length_append]; omega, by rw [arcAt_append q4]; exact q5⟩
   ·rcases List.mem_append.1 hx with hx | hx
    ·obtain ⟨v', a', k, e, q1, q2, q3, q4, q5⟩ := h1.wt x hx
     exact ⟨v', a', k, e, q1, q2, q3, by rw [List.length_append]; omega, by rw [arcAt_append q4]; exact q5⟩
    ·exact ⟨v, a, t.arcs.length, List.mem_singleton.1 hx, hv, by have := hc.1; omega, hc.2, by simp, arcAt_last _ _⟩
  ·exact ⟨h1, h2⟩
theorem bA_is : ∀ a, BOk l use keeps n h (bA l use keeps n h a) ∧ BLt a 0 (bA l use keeps n h a)
 |0 => ⟨⟨fun g => rfl, fun x hx => (nomatch hx), fun x hx => (nomatch hx), List.Pairwise.nil⟩, fun x hx => (nomatch hx)⟩
 |a + 1 => by
  obtain ⟨h1, h2⟩ := bA_is a
  obtain ⟨h3, h4⟩ := bM_is h1 h2 l.length (Nat.le_refl _)
  obtain ⟨h5, h6⟩ := bW_is (a := a) h3 n (Nat.le_refl _)
  unfold bA
  refine ⟨h5, fun x hx => ?_⟩
  rw [h6] at hx
  rcases h4 x hx with q | q
  ·exact .inl (by omega)
  ·exact .inl (by rw [q.1]; omega)
end
theorem sumN_split (g : Nat → Int) (a : Nat) : ∀ b : Nat, sumN (a + b) g = sumN a g + sumN b (fun i => g (a + i))
 |0 => by show sumN a g = sumN a g + 0; omega
 |b + 1 => by
  show sumN (a + b) g + g (a + b) = sumN a g + (sumN b (fun i => g (a + i)) + g (a + b))
  rw [sumN_split g a b]
  omega
def dsA (S : Int → Bool) (x : Arc) (y : Int) : Int := (if S x.f0 = true then y else 0) - (if S x.f1 = true then y else 0)
theorem cross_ds (arcs : List Arc) (f : Nat → Int) (S : Int → Bool) : cross arcs.length (frOf arcs) (toOf arcs) f S = sumN arcs.length (fun i => dsA S (arcAt arcs i) (f i)) := by
 unfold cross
 refine sumN_congr _ (fun i _ => ?_)
 unfold dsA frOf toOf
 cases S (arcAt arcs i).f0 <;> cases S (arcAt arcs i).f1 <;> simp
theorem cross_zero {M : Nat} {arcs : List Arc} (he : Flow.Ends arcs.length (frOf arcs) (toOf arcs) M) {s t : Int} {f : Nat → Int} (hb : Bal arcs.length (frOf arcs) (toOf arcs) M s t f) {S : Int → Bool} (h1 : S s = false) (h2 : S t = false) : sumN arcs.length (fun i => dsA S (arcAt arcs i) (f i)) = 0 := by
 rw [← cross_ds, ← cross_eq he]
 refine sumN_zero M (fun v hv => ?_)
 split
 ·rename_i hS
  exact hb v hv (fun e => by rw [e, h1] at hS; cases hS) (fun e => by rw [e, h2] at hS; cases hS)
 ·rfl
def upS (n : Nat) (v z : Int) : Int → Bool := fun u => decide (u % n = v ∧ u / n ≤ z)
theorem upS_at {n : Nat} {v z a c : Int} (h0 : 0 ≤ c) (h1 : c < n) : upS n v z (a * n + c) = decide (c = v ∧ a ≤ z) := by
 unfold upS
 have hn : (n : Int) ≠ 0 := by omega
 rw [Int.add_comm, Int.add_mul_emod_self_right, Int.add_mul_ediv_right _ _ hn, Int.emod_eq_of_lt h0 h1, Int.ediv_eq_zero_of_lt h0 h1, Int.zero_add]
theorem upS_end {n h : Nat} (hn : 0 < n) {v z : Int} (hz : z ≤ h) (d : Int) (hd : 0 ≤ d) : upS n v z (((h + 1) * n : Nat) + d) = false := by
 unfold upS
 rw [decide_eq_false_iff_not]
 rintro ⟨-, h2⟩
 have h3 : ((h + 1 : Nat) : Int) ≤ ((((h + 1) * n : Nat) : Int) + d) / n := by
  rw [Int.le_ediv_iff_mul_le (by omega), Int.natCast_mul]
  omega
 omega
def waitF (wt : List Ent) (f : Nat → Int) (v z : Int) : Int := sumL (wt.map fun x => if x.1 = v ∧ x.2.1 = z then f x.2.2.toNat else 0)
def stockF (l : List Arc) (mv : List Ent) (f : Nat → Int) (v z : Int) : Int := sumL (mv.map fun x => stock1 l v z ⟨x.1, x.2.1, f x.2.2.toNat⟩)
theorem sumE_congr : ∀ {m : List Ent} {f g : Ent → Int}, (∀ x, x ∈ m → f x = g x) → sumL (m.map f) = sumL (m.map g) := fun {m f g} h => by rw [List.map_congr_left h]
theorem sumE_nonneg : ∀ {m : List Ent} {f : Ent → Int}, (∀ x, x ∈ m → 0 ≤ f x) → 0 ≤ sumL (m.map f)
 |[], _, _ => Int.le_refl 0
 |x :: m, f, h => by
  have h1 := h x (List.mem_cons_self ..)
  have h2 := sumE_nonneg (m := m) (f := f) (fun y hy => h y (List.mem_cons_of_mem _ hy))
  rw [List.map_cons, sumL]
  omega
theorem sumE_zero {m : List Ent} {f : Ent → Int} (h : ∀ x, x ∈ m → f x = 0) : sumL (m.map f) = 0 := by
 rw [sumE_congr h]
 induction m with
 |nil => rfl
 |cons x m ih => rw [List.map_cons, sumL, ih (fun y hy => h y (List.mem_cons_of_mem _ hy))]; rfl
theorem sumE_neg : ∀ (m : List Ent) (f : Ent → Int), sumL (m.map (fun x => - f x)) = - sumL (m.map f)
 |[], _ => rfl
 |x :: m, f => by
  rw [List.map_cons, List.map_cons, sumL, sumL, sumE_neg m f]
  omega
theorem stock_is {l : List Arc} {use : Arc → Bool} {keeps : Nat → Bool} {n h M : Nat} {s : BSt} {R : List Arc} {f : Nat → Int} (hs : BOk l use keeps n h s) (hl : ∀ j : Nat, j < l.length → (0 ≤ (arcAt l j).f0 ∧ (arcAt l j).f0 < n) ∧ (0 ≤ (arcAt l j).f1 ∧ (arcAt l j).f1 < n)) (hn : 0 < n)
  (he : Flow.Ends (s.arcs ++ R).length (frOf (s.arcs ++ R)) (toOf (s.arcs ++ R)) M) (hb : Bal (s.arcs ++ R).length (frOf (s.arcs ++ R)) (toOf (s.arcs ++ R)) M ((h + 1) * n : Nat) (((h + 1) * n : Nat) + 1) f) {v z : Int} (hv : 0 ≤ v ∧ v < n) (hz : z ≤ h) :
  stockF l s.mv f v z = waitF s.wt f v z + sumN R.length (fun i => dsA (upS n v z) (arcAt R i) (f (s.arcs.length + i))) := by
 have h1 := cross_zero he hb (S := upS n v z) (by have := upS_end (v := v) hn hz 0 (Int.le_refl 0); rwa [Int.add_zero] at this) (upS_end hn hz 1 (by decide))
 rw [List.length_append, sumN_split, hs.sum] at h1
 have e1 : sumL (s.mv.map fun x => dsA (upS n v z) (arcAt (s.arcs ++ R) x.2.2.toNat) (f x.2.2.toNat)) = - stockF l s.mv f v z := by
  unfold stockF
  rw [← sumE_neg]
  refine sumE_congr (fun x hx => ?_)
  obtain ⟨j, a, k, rfl, q1, q2, q3, q4, q5⟩ := hs.mv x hx
  simp only [Int.toNat_natCast]
  rw [arcAt_append q4, q5]
  unfold dsA stock1
  obtain ⟨g1, g2⟩ := hl j q1
  simp only
  rw [upS_at g1.1 g1.2, upS_at g2.1 g2.2]
  show _ = -((if (arcAt l j).f1 = v ∧ (a : Int) + (arcAt l j).f3 ≤ z then f k else 0) - (if (arcAt l j).f0 = v ∧ (a : Int) ≤ z then f k else 0))
  simp only [decide_eq_true_eq]
  omega
 have e2 : sumL (s.wt.map fun x => dsA (upS n v z) (arcAt (s.arcs ++ R) x.2.2.toNat) (f x.2.2.toNat)) = waitF s.wt f v z := by
  unfold waitF
  refine sumE_congr (fun x hx => ?_)
  obtain ⟨u, a, k, rfl, q1, q2, q3, q4, q5⟩ := hs.wt x hx
  simp only [Int.toNat_natCast]
  rw [arcAt_append q4, q5]
  unfold dsA
  simp only
  rw [upS_at (by omega) (by omega), upS_at (by omega) (by omega)]
  simp only [decide_eq_true_eq]
  by_cases c1 : (u : Int) = v
  ·by_cases c2 : (a : Int) ≤ z
   ·by_cases c3 : (a : Int) + 1 ≤ z
    ·rw [if_pos ⟨c1, c2⟩, if_pos ⟨c1, c3⟩, if_neg (by omega)]
     omega
    ·rw [if_pos ⟨c1, c2⟩, if_neg (by omega), if_pos (by omega)]
     omega
   ·rw [if_neg (by omega), if_neg (by omega), if_neg (by omega)]
    omega
  ·rw [if_neg (by omega), if_neg (by omega), if_neg (by omega)]
   omega
 have e3 : sumN R.length (fun i => dsA (upS n v z) (arcAt (s.arcs ++ R) (s.arcs.length + i)) (f (s.arcs.length + i))) = sumN R.length (fun i => dsA (upS n v z) (arcAt R i) (f (s.arcs.length + i))) := by
  refine sumN_congr _ (fun i hi => ?_)
  have : arcAt (s.arcs ++ R) (s.arcs.length + i) = arcAt R i := by
   unfold arcAt rd_T104
   rw [Int.toNat_natCast, Int.toNat_natCast, List.getD_eq_getElem?_getD, List.getD_eq_getElem?_getD, List.getElem?_append_right (by omega), Nat.add_sub_cancel_left]
  rw [this]
 rw [e1, e2, e3] at h1
 omega
theorem told_perm {f : List Int} {mv : List Ent} {m : List Mv} (hm : EntOk mv) (hb : ∀ x, x ∈ f → x ≤ 9223372036854775807) (h : MgOf (toldL f mv) m) : m.Perm (toldL f mv) := by
 have ha := told_apart (f := f) hm
 have hself : ∀ {a : List Mv}, a.Pairwise (fun x y => sameK x y = false) → a.Nodup := fun {a} hp => hp.imp (fun {x y} hxy e => by rw [e, sameK_refl] at hxy; cases hxy)
 have hmd : m.Nodup := h.srt.imp (fun {x y} hxy e => by rw [e] at hxy; unfold mlt at hxy; omega)
 have heq : ∀ {x y : Mv}, sameK x y = true → x.f2 = y.f2 → x = y := fun {x y} e e2 => by
  obtain ⟨a, b⟩ := sameK_iff.1 e
  cases x
  cases y
  simp only at a b e2
  rw [a, b, e2]
 refine (List.perm_ext_iff_of_nodup hmd (hself ha)).2 (fun y => ⟨fun hy => ?_, fun hy => ?_⟩)
 ·obtain ⟨h1, -, x, hx, h3⟩ := h.am y hy
  rw [List.take_length] at hx
  rw [← amt_same h3, amt_single ha hx] at h1
  rw [← heq h3 h1.symm]
  exact hx
 ·obtain ⟨h1, h2⟩ := h.all y (by rw [List.take_length]; exact hy)
  rw [amt_single ha hy] at h2
  obtain ⟨w, hw, h3⟩ := h2 (by have := (told_f2 hb hy).1; omega)
  obtain ⟨h4, -, -⟩ := h.am w hw
  rw [← amt_same h3, amt_single ha hy] at h4
  rw [heq h3 h4.symm]
  exact hw
theorem stockV_perm {l : List Arc} {a b : List Mv} (h : a.Perm b) (v z : Int) : stockV l a v z = stockV l b v z := sumL_perm (h.map _)
theorem stockV_told {l : List Arc} {f : List Int} (v z : Int) : ∀ {mv : List Ent}, (∀ x, x ∈ mv → 0 ≤ x.2.2 ∧ 0 ≤ rd f x.2.2) → stockV l (toldL f mv) v z = stockF l mv (dOf f) v z
 |[], _ => rfl
 |x :: mv, h => by
  have h1 := stockV_told (l := l) (f := f) v z (mv := mv) (fun y hy => h y (List.mem_cons_of_mem _ hy))
  obtain ⟨h2, h3⟩ := h x (List.mem_cons_self ..)
  have e : dOf f x.2.2.toNat = rd f x.2.2 := by
   unfold dOf
   rw [Int.toNat_of_nonneg h2]
  unfold stockV stockF toldL at h1 ⊢
  rw [List.flatMap_cons, List.map_append, List.map_cons, sumL_append, sumL, h1, e]
  unfold toldOf
  by_cases c : 0 < rd f x.2.2
  ·rw [if_pos c]
   show (stock1 l v z _ + 0) + _ = _
   omega
  ·rw [if_neg c, show rd f x.2.2 = 0 by omega]
   show (0 : Int) + _ = stock1 l v z ⟨x.1, x.2.1, 0⟩ + _
   unfold stock1
   simp
end Go.Proofs.YtcgdloldkcmhnaaGreat.H
end
section
namespace Go.Proofs.YtcgdloldkcmhnaaGreat.H
open Go Go.RowKit Go.Proofs.YtcgdloldkcmhnaaGreat.PrintC Go.Proofs.YtcgdloldkcmhnaaGreat.PrintE Go.Proofs.YtcgdloldkcmhnaaGreatW.PrintWords Go.Proofs.YtcgdloldkcmhnaaGreatW.PrintLast Go.Proofs.YtcgdloldkcmhnaaGreatW.PrintMore
set_option linter.unusedVariables false
set_option linter.unusedSimpArgs false
def moveOk (l : List Arc) (h s t : Int) (x : Mv) : Bool := decide (0 ≤ x.f0 ∧ x.f0 < l.length ∧ 0 ≤ x.f1 ∧ x.f1 ≤ h ∧ x.f1 + (arcOf l x).f3 ≤ h ∧ 0 ≤ x.f2 ∧ x.f2 ≤ (arcOf l x).f2 ∧ (arcOf l x).f1 ≠ s ∧ (arcOf l x).f0 ≠ t)
def BoolAt (R : Bool) (w : World) (e : Ending) (w' : World) : Prop := e = .returned (.bool R) ∧ Below w.heap.size w w'
set_option maxHeartbeats 8000000 in
set_option maxRecDepth 100000 in
theorem rmove_walk (n : Int) (b : Bool) (A : Option Addr) (c : Nat) (l : List Arc) (s t h x0 x1 x2 : Int) (R : Bool) (hR : R = moveOk l h s t ⟨x0, x1, x2⟩) (w : World) (hr : Kd.C k104 w A l.length l) (hti : ∀ i : Int, 0 ≤ i → i < l.length → 0 ≤ (rd_T104 l i).f3 ∧ (rd_T104 l i).f3 ≤ 1048576) (h0 : 0 ≤ h) (h1 : h ≤ 100000) :
  Calls Tryz.prog 65 #[.agg #[.int .i64 n, .bool b, .slice A l.length c], .int .i64 s, .int .i64 t, .int .i64 h, .agg #[.int .i64 x0, .int .i64 x1, .int .i64 x2]] w (BoolAt R w) := by
 have hu := Tryz.underlying33
 have hu2 := Tryz.underlying76
 have hu3 := Tryz.underlying104
 have HR := Lib.hid hr
 have HTI := Lib.hid hti
 clear hr hti
 obtain ⟨w2, hw2⟩ : ∃ w2, w2 = (w.alloc (.cells #[.int .i64 n, .bool b, .slice A l.length c] 33)).alloc (.cells #[.int .i64 x0, .int .i64 x1, .int .i64 x2] 76) := ⟨_, rfl⟩
 have HB : Hid (Below w.heap.size w w2) := Lib.hid (by rw [hw2]; exact below_alloc (below_alloc (Below.refl _ _) _) _)
 have hc : (x0 < 0 ∧ R = false) ∨ (¬ x0 < 0 ∧ (l.length : Int) ≤ x0 ∧ R = false) ∨ (¬ x0 < 0 ∧ ¬ (l.length : Int) ≤ x0 ∧ x1 < 0 ∧ R = false) ∨ (¬ x0 < 0 ∧ ¬ (l.length : Int) ≤ x0 ∧ ¬ x1 < 0 ∧ h < x1 ∧ R = false) ∨ (0 ≤ x0 ∧ x0 < l.length ∧ 0 ≤ x1 ∧ x1 ≤ h) := by
  by_cases c0 : 0 ≤ x0 ∧ x0 < l.length ∧ 0 ≤ x1 ∧ x1 ≤ h
  ·exact .inr (.inr (.inr (.inr c0)))
  ·have hf : R = false := by
    rw [hR]
    exact decide_eq_false (fun e => c0 ⟨e.1, e.2.1, e.2.2.1, e.2.2.2.1⟩)
   by_cases c1 : x0 < 0
   ·exact .inl ⟨c1, hf⟩
   ·by_cases c2 : (l.length : Int) ≤ x0
    ·exact .inr (.inl ⟨c1, c2, hf⟩)
    ·by_cases c3 : x1 < 0
     ·exact .inr (.inr (.inl ⟨c1, c2, c3, hf⟩))
     ·exact .inr (.inr (.inr (.inl ⟨c1, c2, c3, by omega, hf⟩)))
 rcases hc with ⟨c1, hf⟩ | ⟨c1, c2, hf⟩ | ⟨c1, c2, c3, hf⟩ | ⟨c1, c2, c3, c4, hf⟩ | ⟨c1, c2, c3, c4⟩
 iterate 4
  ·clear hR
   subst hf
   go_enter Tryz.func65, Tryz.ntmps65
   go_wp2
   rw [← hw2]
   go_ret
   exact ⟨rfl, HB.out⟩
 ·obtain ⟨Y, hY⟩ : ∃ Y, Y = rd_T104 l x0 := ⟨_, rfl⟩
  have hRY : R = decide (x1 + Y.f3 ≤ h ∧ 0 ≤ x2 ∧ x2 ≤ Y.f2 ∧ Y.f1 ≠ s ∧ Y.f0 ≠ t) := by
   rw [hR, hY]
   unfold moveOk arcOf
   simp only [c1, c2, c3, c4, true_and]
  have hy3 := HTI.out x0 c1 c2
  obtain ⟨ae, ea, -⟩ := at_T104 HR.out x0 c1 c2
  subst ea
  obtain ⟨ae2, e2, y0, y1, y2, y3⟩ := at_T104 (Kd.C_below HR.out HB.out) x0 c1 c2
  injection e2 with e2
  subst e2
  rw [← hY] at y0 y1 y2 y3 hy3
  clear hY hR
  have e5 : IntKind.i64.wrap (x1 + Y.f3) = x1 + Y.f3 := IntWalk.i64_in _ (by omega)
  have hc : (¬ x1 + Y.f3 ≤ h ∧ R = false) ∨ (x1 + Y.f3 ≤ h ∧ ¬ 0 ≤ x2 ∧ R = false) ∨ (x1 + Y.f3 ≤ h ∧ 0 ≤ x2 ∧ ¬ x2 ≤ Y.f2 ∧ R = false) ∨ (x1 + Y.f3 ≤ h ∧ 0 ≤ x2 ∧ x2 ≤ Y.f2 ∧ (Y.f1 != s) = false ∧ R = false) ∨ (x1 + Y.f3 ≤ h ∧ 0 ≤ x2 ∧ x2 ≤ Y.f2 ∧ (Y.f1 != s) = true ∧ (Y.f0 != t) = false ∧ R = false) ∨ (x1 + Y.f3 ≤ h ∧ 0 ≤ x2 ∧ x2 ≤ Y.f2 ∧ (Y.f1 != s) = true ∧ (Y.f0 != t) = true ∧ R = true) := by
   by_cases d1 : x1 + Y.f3 ≤ h
   ·by_cases d2 : 0 ≤ x2
    ·by_cases d3 : x2 ≤ Y.f2
     ·by_cases d4 : Y.f1 = s
      ·exact .inr (.inr (.inr (.inl ⟨d1, d2, d3, bne_eq_false_iff_eq.2 d4, by rw [hRY]; exact decide_eq_false (fun e => e.2.2.2.1 d4)⟩)))
      ·by_cases d5 : Y.f0 = t
       ·exact .inr (.inr (.inr (.inr (.inl ⟨d1, d2, d3, bne_iff_ne.2 d4, bne_eq_false_iff_eq.2 d5, by rw [hRY]; exact decide_eq_false (fun e => e.2.2.2.2 d5)⟩))))
       ·exact .inr (.inr (.inr (.inr (.inr ⟨d1, d2, d3, bne_iff_ne.2 d4, bne_iff_ne.2 d5, by rw [hRY]; exact decide_eq_true ⟨d1, d2, d3, d4, d5⟩⟩))))
     ·exact .inr (.inr (.inl ⟨d1, d2, d3, by rw [hRY]; exact decide_eq_false (fun e => d3 e.2.2.1)⟩))
    ·exact .inr (.inl ⟨d1, d2, by rw [hRY]; exact decide_eq_false (fun e => d2 e.2.1)⟩)
   ·exact .inl ⟨d1, by rw [hRY]; exact decide_eq_false (fun e => d1 e.1)⟩
  clear hRY
  have c5 : ¬ x0 < 0 := by omega
  have c6 : ¬ (l.length : Int) ≤ x0 := by omega
  have c7 : ¬ x1 < 0 := by omega
  have c8 : ¬ h < x1 := by omega
  rw [hw2] at y0 y1 y2 y3
  rcases hc with ⟨d1, hf⟩ | ⟨d1, d2, hf⟩ | ⟨d1, d2, d3, hf⟩ | ⟨d1, d2, d3, d4, hf⟩ | ⟨d1, d2, d3, d4, d5, hf⟩ | ⟨d1, d2, d3, d4, d5, hf⟩
  all_goals
   subst hf
   go_enter Tryz.func65, Tryz.ntmps65
   go_wp2
   rw [← hw2]
   go_ret
   exact ⟨rfl, below_alloc HB.out _⟩
end Go.Proofs.YtcgdloldkcmhnaaGreat.H
end
section
namespace Go.Proofs.YtcgdloldkcmhnaaGreat.H
open Go Go.RowKit Go.Proofs.YtcgdloldkcmhnaaGreat.PrintC Go.Proofs.YtcgdloldkcmhnaaGreat.PrintE Go.Proofs.YtcgdloldkcmhnaaGreatW.PrintWords Go.Proofs.YtcgdloldkcmhnaaGreatW.PrintLast Go.Proofs.YtcgdloldkcmhnaaGreatW.PrintMore
set_option linter.unusedVariables false
set_option linter.unusedSimpArgs false
theorem appMv : AppK Tryz.prog kMv 40 76 (fun x => [.int .i64 x.f0, .int .i64 x.f1, .int .i64 x.f2]) := ⟨Tryz.underlying40, ⟨_, 24, infoMv, rfl, by decide, by decide⟩, by decide, k76_mkM⟩
theorem mv_swap {W : World} {base g n c : Nat} {a b : List Mv} {X Y : Mv} (h2 : Kd.R kMv 76 W base (fun _ => True) (.slice (some ⟨g, 0, none⟩) n c) (a ++ Y :: X :: b)) {j q : Nat} (hj : j = a.length + 1) (hq : q = a.length) :
  (W.cell? ⟨g, q * 3, none⟩ = some (.int .i64 Y.f0) ∧ W.cell? ⟨g, q * 3 + 1, none⟩ = some (.int .i64 Y.f1) ∧ W.cell? ⟨g, q * 3 + 2, none⟩ = some (.int .i64 Y.f2) ∧
   W.cell? ⟨g, j * 3, none⟩ = some (.int .i64 X.f0) ∧ W.cell? ⟨g, j * 3 + 1, none⟩ = some (.int .i64 X.f1) ∧ W.cell? ⟨g, j * 3 + 2, none⟩ = some (.int .i64 X.f2)) ∧
  (W.frozen? ⟨g, j * 3, none⟩ = false ∧ W.frozen? ⟨g, j * 3 + 1, none⟩ = false ∧ W.frozen? ⟨g, j * 3 + 2, none⟩ = false) ∧
  ∃ W1, W1 = ((W.setCell ⟨g, j * 3, none⟩ (.int .i64 Y.f0)).setCell ⟨g, j * 3 + 1, none⟩ (.int .i64 Y.f1)).setCell ⟨g, j * 3 + 2, none⟩ (.int .i64 Y.f2) ∧
  (∃ u0 u1 u2, W1.cell? ⟨g, q * 3, none⟩ = some u0 ∧ W1.cell? ⟨g, q * 3 + 1, none⟩ = some u1 ∧ W1.cell? ⟨g, q * 3 + 2, none⟩ = some u2) ∧ (W1.frozen? ⟨g, q * 3, none⟩ = false ∧ W1.frozen? ⟨g, q * 3 + 1, none⟩ = false ∧ W1.frozen? ⟨g, q * 3 + 2, none⟩ = false) ∧
  Kd.R kMv 76 (((W1.setCell ⟨g, q * 3, none⟩ (.int .i64 X.f0)).setCell ⟨g, q * 3 + 1, none⟩ (.int .i64 X.f1)).setCell ⟨g, q * 3 + 2, none⟩ (.int .i64 X.f2)) base (fun _ => True) (.slice (some ⟨g, 0, none⟩) n c) (a ++ X :: Y :: b) ∧
  (∀ w0 : World, Below base w0 W → Below base w0 (((W1.setCell ⟨g, q * 3, none⟩ (.int .i64 X.f0)).setCell ⟨g, q * 3 + 1, none⟩ (.int .i64 X.f1)).setCell ⟨g, q * 3 + 2, none⟩ (.int .i64 X.f2))) := by
 have hn : n = (a ++ Y :: X :: b).length := (Kd.R_reads' h2).1
 have hl : (a ++ Y :: X :: b).length = a.length + (b.length + 2) := by rw [List.length_append]; rfl
 have eY : (a ++ Y :: X :: b).getD q z76 = Y := by
  rw [hq, List.getD_eq_getElem?_getD, List.getElem?_append_right (Nat.le_refl _), Nat.sub_self]
  rfl
 have eX : (a ++ Y :: X :: b).getD j z76 = X := by
  rw [hj, List.getD_eq_getElem?_getD, List.getElem?_append_right (by omega), show a.length + 1 - a.length = 1 by omega]
  rfl
 have i0 : (0 : Int) ≤ (j : Int) := by omega
 have i1 : (j : Int) < n := by omega
 have k0 : (0 : Int) ≤ (q : Int) := by omega
 have k1 : (q : Int) < n := by omega
 obtain ⟨ce, hcl, hM, hcc, hfr⟩ := Kd.R_elem h2 z76 (j : Int) i0 i1
 obtain rfl := k76_openM hM
 obtain ⟨ce, hcl', hM', hcc', hfr'⟩ := Kd.R_elem h2 z76 (q : Int) k0 k1
 obtain rfl := k76_openM hM'
 have hg := Kd.R_base h2 g rfl
 have s1 := (Kd.R_seg h2 (j : Int) i0 i1 (seg := [.int .i64 Y.f0, .int .i64 Y.f1, .int .i64 Y.f2]) (j := 0) hcl hcc (show 3 ≤ 3 from by decide) (x' := Y) (k76_mkM _ _ _ _) (fun _ hk => hk)).1
 obtain ⟨ce, hcl2, hM2, hcc2, hfr2⟩ := Kd.R_elem s1 z76 (q : Int) k0 k1
 obtain rfl := k76_openM hM2
 have s2 := (Kd.R_seg s1 (q : Int) k0 k1 (seg := [.int .i64 X.f0, .int .i64 X.f1, .int .i64 X.f2]) (j := 0) hcl2 hcc2 (show 3 ≤ 3 from by decide) (x' := X) (k76_mkM _ _ _ _) (fun _ hk => hk)).1
 have es : ((a ++ Y :: X :: b).set j Y).set q X = a ++ X :: Y :: b := by
  rw [hj, hq, List.set_append_right _ _ (by omega), show a.length + 1 - a.length = 1 by omega, List.set_append_right _ _ (by omega), Nat.sub_self]
  rfl
 simp only [World.setCells, show k76.sz = 3 from rfl, Nat.add_zero, Int.toNat_natCast, eX, eY] at hcc hcc' hfr hfr' hcc2 hfr2 s1 s2
 rw [es] at s2
 refine ⟨⟨hcc' 0 _ rfl, hcc' 1 _ rfl, hcc' 2 _ rfl, hcc 0 _ rfl, hcc 1 _ rfl, hcc 2 _ rfl⟩, ⟨hfr 0, hfr 1, hfr 2⟩, _, rfl, ⟨_, _, _, hcc2 0 _ rfl, hcc2 1 _ rfl, hcc2 2 _ rfl⟩, ⟨hfr2 0, hfr2 1, hfr2 2⟩, s2, fun w0 hw => ?_⟩
 exact (((((hw.setCell hg _).setCell hg _).setCell hg _).setCell hg _).setCell hg _).setCell hg _
def alls (l : List Mv) (i j : Nat) : List Int := ((l.take j).filter (sameK (mvAt l i))).map (·.f2)
theorem alls_next {l : List Mv} {i j : Nat} (hj : j < l.length) : alls l i (j + 1) = alls l i j ++ (if sameK (mvAt l i) (mvAt l j) = true then [(mvAt l j).f2] else []) := by
 unfold alls
 rw [mvAt_take hj, List.filter_append, List.map_append]
 congr 1
 by_cases e : sameK (mvAt l i) (mvAt l j) = true
 ·rw [if_pos e, List.filter_cons_of_pos e]
  rfl
 ·rw [if_neg e, List.filter_cons_of_neg e]
  rfl
theorem alls_first {l : List Mv} {i : Nat} (hi : i ≤ l.length) (h : ∀ k, k < i → sameK (mvAt l k) (mvAt l i) = false) : alls l i i = [] := by
 unfold alls
 rw [List.filter_eq_nil_iff.2 fun x hx e => ?_]
 ·rfl
 ·obtain ⟨k, hk, rfl⟩ := mem_take_at hi hx
  exact absurd (sameK_sym e) (by rw [h k hk]; decide)
theorem alls_len (l : List Mv) (i j : Nat) : (alls l i j).length ≤ l.length := by
 unfold alls
 rw [List.length_map]
 exact Nat.le_trans (List.length_filter_le _ _) (by rw [List.length_take]; omega)
theorem alls_i64 {l : List Mv} (h : ∀ x, x ∈ l → -9223372036854775808 ≤ x.f2 ∧ x.f2 ≤ 9223372036854775807) (i j : Nat) : I64s (alls l i j) := fun y hy => by
 unfold alls at hy
 obtain ⟨x, hx, rfl⟩ := List.mem_map.1 hy
 exact h x (List.mem_of_mem_take (List.mem_filter.1 hx).1)
theorem appInt : AppK Tryz.prog (Kd.int .i64) 68 3 (fun x => [.int .i64 x]) := ⟨Tryz.underlying68, ⟨_, 8, infoNum, rfl, by decide, by decide⟩, by decide, fun _ _ _ _ => rfl⟩
def mvT9 : Bool × List (List Nat × List Nat) := (true, [([], []), ([0], [0]), ([1], [1]), ([1], [1]), ([2, 3, 1], [1, 2, 3]), ([4, 1], [1, 4]), ([5, 1], [1, 5]), ([1], [1]), ([1], [1]), ([7, 8, 1], [1, 7, 8]), ([9, 1], [1, 9]), ([10, 1], [1, 10]), ([6, 11, 1], [1, 6, 11]), ([12, 1, 1], [1, 12]), ([13], [13]), ([13], [13]), ([14, 15, 13], [13, 14, 15]), ([16, 13], [13, 16]), ([17, 13], [13, 17]), ([13], [13]), ([13], [13]), ([19, 20, 13], [13, 19, 20]), ([21, 13], [13, 21]), ([22, 13], [13, 22]), ([18, 23, 13], [13, 18, 23]), ([13, 24, 1], [1, 13, 24]), ([1, 25], [1, 25]), ([26, 13, 0, 1, 2, 3, 4, 5, 6, 7, 8, 9, 10, 11, 12, 13, 14, 15, 16, 17, 18, 19, 20, 21, 22, 23, 24, 25, 26], [0, 26])])
def mvT15 : Bool × List (List Nat × List Nat) := (true, [([], []), ([], []), ([0, 1], [0, 1]), ([2], [2]), ([3], [3]), ([], []), ([], []), ([5, 6], [5, 6]), ([7], [7]), ([8], [8]), ([4, 9], [4, 9]), ([10], [10]), ([11], [11]), ([11], [11]), ([12, 13, 11], [11, 12, 13]), ([14, 11], [11, 14]), ([15, 11], [11, 15]), ([11], [11]), ([11], [11]), ([17, 18, 11], [11, 17, 18]), ([19, 11], [11, 19]), ([20, 11], [11, 20]), ([16, 21, 11], [11, 16, 21]), ([11, 22], [11, 22])])
def mvT23 : Bool × List (List Nat × List Nat) := (true, [([], []), ([0], [0]), ([1], [1]), ([2], [2]), ([2], [2]), ([3, 4, 2], [2, 3, 4]), ([5, 2], [2, 5]), ([6, 2], [2, 6]), ([2], [2]), ([2], [2]), ([9, 2], [2, 9]), ([8, 10, 2], [2, 8, 10]), ([11, 2], [2, 11]), ([12, 2], [2, 12]), ([7, 13, 2], [2, 7, 13]), ([14, 2, 2], [2, 14]), ([15], [15]), ([15], [15]), ([16, 17, 15], [15, 16, 17]), ([18, 15], [15, 18]), ([19, 15], [15, 19]), ([15], [15]), ([15], [15]), ([22, 15], [15, 22]), ([21, 23, 15], [15, 21, 23]), ([24, 15], [15, 24]), ([25, 15], [15, 25]), ([20, 26, 15], [15, 20, 26]), ([27, 15, 15], [15, 27]), ([28], [28]), ([28], [28]), ([29, 30, 28], [28, 29, 30]), ([31, 28], [28, 31]), ([32, 28], [28, 32]), ([28], [28]), ([28], [28]), ([35, 28], [28, 35]), ([34, 36, 28], [28, 34, 36]), ([37, 28], [28, 37]), ([38, 28], [28, 38]), ([33, 39, 28], [28, 33, 39]), ([28, 40, 15], [15, 28, 40]), ([15, 41, 2], [2, 15, 41]), ([2, 42], [2, 42])])
set_option maxHeartbeats 8000000 in
set_option maxRecDepth 100000 in
theorem rmoves_walk (A : Option Addr) (c : Nat) (l : List Mv) (w : World) (hr : Kd.C kMv w A l.length l) (hi : ∀ x, x ∈ l → -9223372036854775808 ≤ x.f2 ∧ x.f2 ≤ 9223372036854775807) (hl : l.length ≤ 100000) :
  Calls Tryz.prog 12 #[.slice A l.length c] w (MovesAt l w) := by
 have HR := Lib.hid hr
 have HI := Lib.hid hi
 have hu2 := Tryz.underlying76
 clear hr hi
 go_enter Tryz.func12, Tryz.ntmps12
 go_wp2
 go_loopg [4, 5] (l.length + 1) (fun k ov iv W => ∃ (i : Nat) (m : List Mv) (Ao : Option Addr) (co : Nat), i ≤ l.length ∧ ov = .slice Ao m.length co ∧ iv = .int .i64 i ∧ k = l.length + 1 - i ∧ Hid (Kd.R kMv 76 W w.heap.size (fun _ => True) (.slice Ao m.length co) m ∧ Below w.heap.size w W ∧ MgI l i m ∧ m.length ≤ i))
 case atStart => exact ⟨0, [], none, 0, Nat.zero_le _, rfl, rfl, rfl, Lib.hid ⟨Kd.R_nil _ _ _ _ _, Below.refl _ _, MgI.zero l, Nat.le_refl _⟩⟩
 case round =>
  obtain ⟨i, m, Ao, co, hi, rfl, rfl, rfl, HL⟩ := hrel
  by_cases hlt : i < l.length
  ·have i0 : (0 : Int) ≤ (i : Int) := by omega
   have i1 : (i : Int) < (l.length : Int) := by omega
   obtain ⟨ad, ea, -⟩ := at_T76 HR.out (i : Int) i0 i1
   subst ea
   obtain ⟨X, hX⟩ : ∃ X, X = mvAt l i := ⟨_, rfl⟩
   have CI : Hid (∀ W, Below w.heap.size w W → W.cell? (ad.add (i * 3)) = some (.int .i64 X.f0) ∧ W.cell? ⟨(ad.add (i * 3)).block, (ad.add (i * 3)).off + 1, none⟩ = some (.int .i64 X.f1) ∧ W.cell? ⟨(ad.add (i * 3)).block, (ad.add (i * 3)).off + 2, none⟩ = some (.int .i64 X.f2)) := Lib.hid (fun W hW => by
    obtain ⟨ad2, e2, z0, z1, z2⟩ := at_T76 (Kd.C_below HR.out hW) (i : Int) i0 i1
    injection e2 with e2
    subst e2
    rw [Int.toNat_natCast] at z0 z1 z2
    rw [hX]
    exact ⟨z0, z1, z2⟩)
   have HX := Lib.hid hX
   clear hX
   go_wp2
   go_loopg [6, 7] (i + 1) (fun k fv jv W => ∃ (j : Nat) (fb : Bool), j ≤ i ∧ fv = .bool fb ∧ jv = .int .i64 j ∧ k = i + 1 - j ∧ Hid ((fb = true ↔ ∀ t, t < j → sameK (mvAt l t) X = false) ∧ Kd.R kMv 76 W w.heap.size (fun _ => True) (.slice Ao m.length co) m ∧ Below w.heap.size w W))
   case atStart => exact ⟨0, true, Nat.zero_le _, rfl, rfl, rfl, Lib.hid ⟨⟨fun _ t ht => absurd ht (Nat.not_lt_zero _), fun _ => rfl⟩, HL.out.1, HL.out.2.1⟩⟩
   case round =>
    obtain ⟨j, fb, hj, rfl, rfl, rfl, HJ⟩ := hrel
    by_cases hjt : j < i
    ·have j0 : (0 : Int) ≤ (j : Int) := by omega
     have j1 : (j : Int) < (l.length : Int) := by omega
     have hji : (j : Int) < (i : Int) := by omega
     obtain ⟨ad2, e2, y0, y1, -⟩ := at_T76 (Kd.C_drew (Kd.C_below HR.out HJ.out.2.2)) (j : Int) j0 j1
     injection e2 with e2
     subst e2
     rw [Int.toNat_natCast] at y0 y1
     obtain ⟨Y, hY⟩ : ∃ Y, Y = mvAt l j := ⟨_, rfl⟩
     have hY2 : rd_T76 l (j : Int) = Y := by rw [hY]; rfl
     rw [hY2] at y0 y1
     have HY := Lib.hid hY
     clear hY hY2
     obtain ⟨x0, x1, -⟩ := CI.out _ (below_drew1 HJ.out.2.2)
     have HO := Lib.hid (And.intro (Kd.R_drew HJ.out.2.1) (below_drew1 HJ.out.2.2))
     obtain ⟨nf, hnf, HN⟩ : ∃ nf : Bool, nf = (fb && (decide (Y.f0 ≠ X.f0) || decide (Y.f1 ≠ X.f1))) ∧ Hid (nf = true ↔ ∀ t, t < j + 1 → sameK (mvAt l t) X = false) := by
      refine ⟨_, rfl, Lib.hid ?_⟩
      have hs : sameK Y X = false ↔ (Y.f0 ≠ X.f0 ∨ Y.f1 ≠ X.f1) := by
       unfold sameK
       rw [decide_eq_false_iff_not]
       omega
      rw [Bool.and_eq_true, Bool.or_eq_true, decide_eq_true_iff, decide_eq_true_iff, ← hs, HJ.out.1, HY.out]
      constructor
      ·rintro ⟨h1, h2⟩ t ht
       by_cases e : t = j
       ·rw [e]; exact h2
       ·exact h1 t (by omega)
      ·exact fun h => ⟨fun t ht => h t (by omega), h j (by omega)⟩
     have HJ2 := Lib.hid HJ.out.1
     clear HL HJ
     go_wp2
     refine stepS (S := fun w' => w'.cell? (ad.add (j * 3)) = some (.int .i64 Y.f0) ∧ w'.cell? ⟨(ad.add (j * 3)).block, (ad.add (j * 3)).off + 1, none⟩ = some (.int .i64 Y.f1) ∧ w'.cell? (ad.add (i * 3)) = some (.int .i64 X.f0) ∧ w'.cell? ⟨(ad.add (i * 3)).block, (ad.add (i * 3)).off + 1, none⟩ = some (.int .i64 X.f1)) (ds := []) 28 (by kernel_rfl) rfl ⟨y0, y1, x0, x1⟩ (fun hHeld => ?_)
     generalize wr.drew = wd at HO hHeld ⊢
     refine wT mvT9 (fun hT => ?_)
     clear y0 y1 x0 x1
     cases fb with
     |false =>
      have hn2 : nf = false := by rw [hnf]; rfl
      subst hn2
      clear hnf
      as_aux_lemma =>
       repeat (first | refine qP 28 hT ?_ | refine qT 28 hT hHeld ?_)
       refine done_ (by kernel_rfl) ?_
       go_wp2
       go_roundg (i - j)
       case measure => omega
       case rel => exact ⟨j + 1, false, by omega, rfl, by go_num, by omega, Lib.hid ⟨by simpa using HN.out, HO.out.1, HO.out.2⟩⟩
     |true =>
      by_cases c0 : Y.f0 = X.f0
      ·have d0 : (Y.f0 != X.f0) = false := bne_eq_false_iff_eq.2 c0
       have d1 : (Y.f0 == X.f0) = true := beq_iff_eq.2 c0
       by_cases c1 : Y.f1 = X.f1
       ·have d2 : (Y.f1 != X.f1) = false := bne_eq_false_iff_eq.2 c1
        have d3 : (Y.f1 == X.f1) = true := beq_iff_eq.2 c1
        have hn2 : nf = false := by rw [hnf, c0, c1]; simp
        subst hn2
        have HC := Lib.hid (And.intro c0 c1)
        clear hnf c0 c1
        as_aux_lemma =>
         repeat (first | refine qP 28 hT ?_ | refine qT 28 hT hHeld ?_)
         refine done_ (by kernel_rfl) ?_
         go_wp2
         go_roundg (i - j)
         case measure => omega
         case rel => exact ⟨j + 1, false, by omega, rfl, by go_num, by omega, Lib.hid ⟨by simpa using HN.out, HO.out.1, HO.out.2⟩⟩
       ·have d2 : (Y.f1 != X.f1) = true := bne_iff_ne.2 c1
        have d3 : (Y.f1 == X.f1) = false := beq_eq_false_iff_ne.2 c1
        have hn2 : nf = true := by rw [hnf]; simp [c1]
        subst hn2
        have HC := Lib.hid (And.intro c0 c1)
        clear hnf c0 c1
        as_aux_lemma =>
         repeat (first | refine qP 28 hT ?_ | refine qT 28 hT hHeld ?_)
         refine done_ (by kernel_rfl) ?_
         go_wp2
         go_roundg (i - j)
         case measure => omega
         case rel => exact ⟨j + 1, true, by omega, rfl, by go_num, by omega, Lib.hid ⟨by simpa using HN.out, HO.out.1, HO.out.2⟩⟩
      ·have d0 : (Y.f0 != X.f0) = true := bne_iff_ne.2 c0
       have d1 : (Y.f0 == X.f0) = false := beq_eq_false_iff_ne.2 c0
       have hn2 : nf = true := by rw [hnf]; simp [c0]
       subst hn2
       have HC := Lib.hid c0
       clear hnf c0
       as_aux_lemma =>
        repeat (first | refine qP 28 hT ?_ | refine qT 28 hT hHeld ?_)
        refine done_ (by kernel_rfl) ?_
        go_wp2
        go_roundg (i - j)
        case measure => omega
        case rel => exact ⟨j + 1, true, by omega, rfl, by go_num, by omega, Lib.hid ⟨by simpa using HN.out, HO.out.1, HO.out.2⟩⟩
    ·have e : j = i := by omega
     subst e
     cases fb with
     |false =>
      have HH : Hid (∃ t, t < j ∧ sameK (mvAt l t) X = true) := Lib.hid (by
       apply Classical.byContradiction
       intro h
       have := HJ.out.1.2 (fun t ht => by
        cases e : sameK (mvAt l t) X with
        |false => rfl
        |true => exact absurd ⟨t, ht, e⟩ h)
       cases this)
      go_wp2
      go_roundg (l.length - j)
      case measure => omega
      case rel =>
       refine ⟨j + 1, m, Ao, co, by omega, rfl, by go_num, by omega, Lib.hid ⟨HJ.out.2.1, HJ.out.2.2, ?_, by have := HL.out.2.2.2; omega⟩⟩
       obtain ⟨t, ht, e⟩ := HH.out
       rw [HX.out] at e
       exact HL.out.2.2.1.had hlt ht e
     |true =>
      have HNH : Hid (∀ t, t < j → sameK (mvAt l t) (mvAt l j) = false) := Lib.hid (fun t ht => by have := HJ.out.1.1 rfl t ht; rw [HX.out] at this; exact this)
      have HA0 : Hid (alls l j j = []) := Lib.hid (alls_first (by omega) HNH.out)
      have HO := Lib.hid (And.intro HJ.out.2.1 HJ.out.2.2)
      have HM := Lib.hid HL.out.2.2
      have hmj : m.length ≤ j := HL.out.2.2.2
      clear HL HJ
      go_wp2
      obtain ⟨W2, hW2⟩ : ∃ W2, W2 = wr := ⟨_, rfl⟩
      rw [← hW2] at HO ⊢
      clear hW2
      go_loopg [8, 9] (l.length + 1 - j) (fun k av tv W => ∃ (t : Nat) (Aa : Option Addr) (ca : Nat), j ≤ t ∧ t ≤ l.length ∧ av = .slice Aa (alls l j t).length ca ∧ tv = .int .i64 t ∧ k = l.length + 1 - t ∧ Hid (Kd.R (Kd.int .i64) 3 W W2.heap.size (fun _ => True) (.slice Aa (alls l j t).length ca) (alls l j t) ∧ Below W2.heap.size W2 W))
      case atStart => exact ⟨j, none, 0, Nat.le_refl _, by omega, by rw [HA0.out]; rfl, rfl, rfl, Lib.hid ⟨by rw [HA0.out]; exact Kd.R_nil _ _ _ _ _, Below.refl _ _⟩⟩
      case round =>
       obtain ⟨t, Aa, ca, ht1, ht, rfl, rfl, rfl, HT⟩ := hrel
       have HB := Lib.hid (below_step HO.out.2 HT.out.2)
       by_cases htl : t < l.length
       ·have j0 : (0 : Int) ≤ (t : Int) := by omega
        have j1 : (t : Int) < (l.length : Int) := by omega
        obtain ⟨ad2, e2, y0, y1, y2⟩ := at_T76 (Kd.C_drew (Kd.C_below HR.out HB.out)) (t : Int) j0 j1
        injection e2 with e2
        subst e2
        rw [Int.toNat_natCast] at y0 y1 y2
        obtain ⟨Y, hY⟩ : ∃ Y, Y = mvAt l t := ⟨_, rfl⟩
        have hY2 : rd_T76 l (t : Int) = Y := by rw [hY]; rfl
        rw [hY2] at y0 y1 y2
        clear hY2
        obtain ⟨x0, x1, -⟩ := CI.out _ (below_drew1 HB.out)
        have HO2 := Lib.hid (And.intro (Kd.R_drew HT.out.1) (below_drew1 HT.out.2))
        have hnx := alls_next (i := j) htl
        rw [← hY, ← HX.out] at hnx
        go_wp2
        refine stepS (S := fun w' => w'.cell? (ad.add (t * 3)) = some (.int .i64 Y.f0) ∧ w'.cell? ⟨(ad.add (t * 3)).block, (ad.add (t * 3)).off + 1, none⟩ = some (.int .i64 Y.f1) ∧ w'.cell? (ad.add (j * 3)) = some (.int .i64 X.f0) ∧ w'.cell? ⟨(ad.add (j * 3)).block, (ad.add (j * 3)).off + 1, none⟩ = some (.int .i64 X.f1)) (ds := []) 24 (by kernel_rfl) rfl ⟨y0, y1, x0, x1⟩ (fun hHeld => ?_)
        generalize wr.drew = wd at HO2 hHeld y2 ⊢
        refine wT mvT15 (fun hT => ?_)
        clear y0 y1 x0 x1 HT HB
        by_cases c0 : Y.f0 = X.f0
        ·have d0 : (Y.f0 != X.f0) = false := bne_eq_false_iff_eq.2 c0
         have d1 : (Y.f0 == X.f0) = true := beq_iff_eq.2 c0
         by_cases c1 : Y.f1 = X.f1
         ·have d2 : (Y.f1 != X.f1) = false := bne_eq_false_iff_eq.2 c1
          have d3 : (Y.f1 == X.f1) = true := beq_iff_eq.2 c1
          rw [if_pos (sameK_iff.2 ⟨c0.symm, c1.symm⟩)] at hnx
          have HNX := Lib.hid hnx
          have HC := Lib.hid (And.intro c0 c1)
          clear hnx c0 c1 hY
          as_aux_lemma =>
           repeat (first | refine qP 24 hT ?_ | refine qT 24 hT hHeld ?_)
           refine done_ (by kernel_rfl) ?_
           clear hHeld
           go_wp2_with (first
            |((with_reducible refine gate_dst (N := 91) rfl ?_); (refine gA (w0 := W2) (base := W2.heap.size) appInt (alls l j t) Y.f2 ?aO ?aB ?aS ?aL ?_); (case aO => exact HO2.out.1); (case aB => exact HO2.out.2); (case aS => exact HO2.out.2.size); (case aL => have := alls_len l j t; omega); go_loud (intro A1 c1 w9 ho hb hg; have HO9 := Lib.hid (And.intro ho hb); clear ho hb hg HO2)))
           go_roundg (l.length - t)
           case measure => omega
           case rel => exact ⟨t + 1, A1, c1, by omega, by omega, by rw [HNX.out, List.length_append]; rfl, by go_num, by omega, Lib.hid ⟨by rw [HNX.out, List.length_append]; exact HO9.out.1, HO9.out.2⟩⟩
         ·have d2 : (Y.f1 != X.f1) = true := bne_iff_ne.2 c1
          have d3 : (Y.f1 == X.f1) = false := beq_eq_false_iff_ne.2 c1
          rw [if_neg (fun e => c1 (sameK_iff.1 e).2.symm), List.append_nil] at hnx
          have HNX := Lib.hid hnx
          have HC := Lib.hid (And.intro c0 c1)
          clear hnx c0 c1 hY
          as_aux_lemma =>
           repeat (first | refine qP 24 hT ?_ | refine qT 24 hT hHeld ?_)
           refine done_ (by kernel_rfl) ?_
           clear hHeld
           go_wp2
           go_roundg (l.length - t)
           case measure => omega
           case rel => exact ⟨t + 1, Aa, ca, by omega, by omega, by rw [HNX.out], by go_num, by omega, Lib.hid ⟨by rw [HNX.out]; exact HO2.out.1, HO2.out.2⟩⟩
        ·have d0 : (Y.f0 != X.f0) = true := bne_iff_ne.2 c0
         have d1 : (Y.f0 == X.f0) = false := beq_eq_false_iff_ne.2 c0
         rw [if_neg (fun e => c0 (sameK_iff.1 e).1.symm), List.append_nil] at hnx
         have HNX := Lib.hid hnx
         have HC := Lib.hid c0
         clear hnx c0 hY
         as_aux_lemma =>
          repeat (first | refine qP 24 hT ?_ | refine qT 24 hT hHeld ?_)
          refine done_ (by kernel_rfl) ?_
          clear hHeld
          go_wp2
          go_roundg (l.length - t)
          case measure => omega
          case rel => exact ⟨t + 1, Aa, ca, by omega, by omega, by rw [HNX.out], by go_num, by omega, Lib.hid ⟨by rw [HNX.out]; exact HO2.out.1, HO2.out.2⟩⟩
       ·have e : t = l.length := by omega
        subst e
        obtain ⟨T, hT⟩ : ∃ T, T = amt l X := ⟨_, rfl⟩
        have HSUM : Hid (sumL (alls l j l.length) = T) := Lib.hid (by rw [hT, HX.out]; unfold alls amt; rw [List.take_length])
        have HTE := Lib.hid hT
        have hal := alls_len l j l.length
        clear hT
        cases hf : fits T with
        |false =>
         have HF := Lib.hid hf
         clear hf
         go_wp2_with (go_at_call 31; go_loud ((with_reducible refine (rsum_walk Aa ca (alls l j l.length) _ ?s1 ?s2 ?s3).mono ?_); (case s1 => exact (Kd.R_reads' HT.out.1).2.2); (case s2 => exact alls_i64 HI.out j _); (case s3 => omega); rintro e w7 hs; obtain ⟨rfl, hb⟩ := hs.no HSUM.out HF.out; have HB7 := Lib.hid (below_step HB.out hb); clear hs hb))
         go_ret2
         refine ⟨HB7.out, .inl ⟨rfl, X, ?_, ?_⟩⟩
         ·rw [HX.out]
          exact mvAt_mem hlt
         ·rw [← HTE.out]
          exact HF.out
        |true =>
         have HF := Lib.hid hf
         clear hf
         by_cases c9 : T = 0
         ·have c1 : (T == 0) = true := beq_iff_eq.2 c9
          have c2 : (T != 0) = false := bne_eq_false_iff_eq.2 c9
          have HC9 := Lib.hid c9
          clear c9
          go_wp2_with (go_at_call 31; go_loud ((with_reducible refine (rsum_walk Aa ca (alls l j l.length) _ ?s1 ?s2 ?s3).mono ?_); (case s1 => exact (Kd.R_reads' HT.out.1).2.2); (case s2 => exact alls_i64 HI.out j _); (case s3 => omega); rintro e w7 hs; obtain ⟨rfl, hb⟩ := hs.yes HSUM.out HF.out; have HB7 := Lib.hid (And.intro (Kd.R_below (Kd.R_below HO.out.1 HT.out.2) hb) (below_step HB.out hb)); clear hs hb))
          go_roundg (l.length - j)
          case measure => omega
          case rel =>
           exact ⟨j + 1, m, Ao, co, by omega, rfl, by go_num, by omega, Lib.hid ⟨HB7.out.1, HB7.out.2, HM.out.1.none hlt (by rw [← HX.out, ← HTE.out]; exact HC9.out), by omega⟩⟩
         ·have c1 : (T == 0) = false := beq_eq_false_iff_ne.2 c9
          have c2 : (T != 0) = true := bne_iff_ne.2 c9
          have HC9 := Lib.hid c9
          clear c9
          go_wp2_with (go_at_call 31; go_loud ((with_reducible refine (rsum_walk Aa ca (alls l j l.length) _ ?s1 ?s2 ?s3).mono ?_); (case s1 => exact (Kd.R_reads' HT.out.1).2.2); (case s2 => exact alls_i64 HI.out j _); (case s3 => omega); rintro e w7 hs; obtain ⟨rfl, hb⟩ := hs.yes HSUM.out HF.out; have HB7 := Lib.hid (And.intro (Kd.R_below (Kd.R_below HO.out.1 HT.out.2) hb) (below_step HB.out hb)); clear hs hb))
          obtain ⟨x0, x1, -⟩ := CI.out _ (below_drew1 HB7.out.2)
          refine stepS (S := fun w' => w'.cell? (ad.add (j * 3)) = some (.int .i64 X.f0) ∧ w'.cell? ⟨(ad.add (j * 3)).block, (ad.add (j * 3)).off + 1, none⟩ = some (.int .i64 X.f1)) (ds := [14]) 16 (by kernel_rfl) rfl ⟨x0, x1⟩ (fun hHeld => ?_)
          have HO9 := Lib.hid (And.intro (Kd.R_drew HB7.out.1) (below_drew1 HB7.out.2))
          generalize w7.drew = wd at HO9 hHeld ⊢
          clear x0 x1 HB7 HO HB HT
          as_aux_lemma =>
           repeat (first | refine rP 16 ?_ | refine rT 16 hHeld ?_)
           refine sB 13 hHeld (fun hHeld => ?_)
           obtain ⟨XX, hXX⟩ : ∃ XX : Mv, XX = ⟨X.f0, X.f1, T⟩ := ⟨_, rfl⟩
           refine sA 14 appMv m ⟨X.f0, X.f1, T⟩ HO9.out.1 HO9.out.2 HO9.out.2.size (by omega) (fun A1 c1 w9 ho hb hg => ?_)
           refine sN ?_
           refine rP 16 ?_
           refine done_ (by kernel_rfl) ?_
           rw [← hXX] at ho
           have HXX := Lib.hid hXX
           obtain ⟨n1, hn1⟩ : ∃ n1, n1 = m.length + 1 := ⟨_, rfl⟩
           rw [← hn1] at ho ⊢
           obtain ⟨g, cap, ev, -⟩ := Kd.R_form ho (by simp)
           injection ev with ev1 ev2 ev3
           subst ev1
           clear ev2 ev3 hXX hg hHeld HO9
           have HO9 := Lib.hid (And.intro ho hb)
           clear ho hb
           have HM9 := Lib.hid HM.out
           have hn1b : 1 ≤ n1 ∧ n1 ≤ 100001 := by omega
           have HN1 := Lib.hid hn1
           clear hn1
           go_wp2
           go_loopg [12] n1 (fun k jv W => ∃ (J : Int) (a b : List Mv), jv = .int .i64 J ∧ J = (a.length : Int) ∧ k = J.toNat + 1 ∧ J ≤ 100000 ∧ Hid (a ++ b = m ∧ (∀ y, y ∈ b → mlt XX y) ∧ Kd.R kMv 76 W w.heap.size (fun _ => True) (.slice (some ⟨g, 0, none⟩) n1 c1) (a ++ XX :: b) ∧ Below w.heap.size w W))
           case atStart => exact ⟨(n1 : Int) - 1, m, [], rfl, by have := HN1.out; omega, by omega, by omega, Lib.hid ⟨List.append_nil m, fun _ h => (nomatch h), HO9.out.1, HO9.out.2⟩⟩
           case round =>
            obtain ⟨J, a, b, rfl, hJ, rfl, hJb, HK⟩ := hrel
            rcases List.eq_nil_or_concat a with rfl | ⟨a', Y, ha⟩
            ·have hJ0 : J = 0 := by rw [hJ]; rfl
             subst hJ0
             clear hJ
             go_wp2
             refine stepS (S := fun _ => True) (ds := []) 44 (by kernel_rfl) rfl trivial (fun hHeld => ?_)
             have HO9 := Lib.hid (And.intro (Kd.R_drew HK.out.2.2.1) (below_drew1 HK.out.2.2.2))
             generalize wr.drew = wd at HO9 ⊢
             refine wT mvT23 (fun hT => ?_)
             repeat refine qP 44 hT ?_
             refine done_ (by kernel_rfl) ?_
             go_wp2
             go_roundg (l.length - j)
             case measure => omega
             case rel => exact ⟨j + 1, XX :: b, some ⟨g, 0, none⟩, c1, by omega, by rw [List.length_cons, ← List.nil_append b, HK.out.1, ← HN1.out], by go_num, by omega, Lib.hid ⟨by rw [List.length_cons, ← List.nil_append b, HK.out.1, ← HN1.out, ← HK.out.1]; exact HO9.out.1, HO9.out.2, MgI.ins (a := []) (by rw [HK.out.1]; exact HM9.out.1) hlt HNH.out (by rw [HXX.out, HTE.out, HX.out]) (by rw [← HX.out, ← HTE.out]; exact HF.out) (by rw [← HX.out, ← HTE.out]; exact HC9.out) HK.out.2.1 (fun a' y e => by simp at e), by rw [List.length_cons, ← List.nil_append b, HK.out.1]; omega⟩⟩
            ·rw [List.concat_eq_append] at ha
             subst ha
             rw [List.length_append, List.length_singleton] at hJ
             obtain ⟨Z, hZ⟩ : ∃ Z : Int, Z = J - 1 := ⟨_, rfl⟩
             have eZ : IntKind.i64.wrap (J - 1) = Z := by rw [IntWalk.i64_in _ (by omega), hZ]
             have ep : J.toNat = a'.length + 1 := by omega
             have eq : Z.toNat = a'.length := by omega
             have hlen : n1 = a'.length + b.length + 2 := by
              have := (Kd.R_reads' HK.out.2.2.1).1
              rw [this]
              simp
              omega
             have z0 : 0 ≤ Z := by omega
             have z1 : Z < (n1 : Int) := by omega
             have J0 : 0 < J := by omega
             have J1 : J < (n1 : Int) := by omega
             have hR9 := HK.out.2.2.1
             rw [List.append_assoc] at hR9
             have HR9 := Lib.hid (show Kd.R kMv 76 wr w.heap.size (fun _ => True) (.slice (some ⟨g, 0, none⟩) n1 c1) (a' ++ Y :: XX :: b) from hR9)
             clear hR9
             obtain ⟨q0, q1, -, p0, p1, -⟩ := (mv_swap (Kd.R_drew HR9.out) ep eq).1
             have J00 : 0 ≤ J := by omega
             have HZ := Lib.hid (And.intro hZ (And.intro ep (And.intro eq (And.intro hlen hJ))))
             have HK2 := Lib.hid (And.intro HK.out.1 (And.intro HK.out.2.1 (below_drew1 (below_drew1 HK.out.2.2.2))))
             have HR10 := Lib.hid (Kd.R_drew HR9.out)
             clear hZ ep eq hlen hJ HO9
             go_wp2
             refine stepS (S := fun w' => w'.cell? ⟨g, Z.toNat * 3, none⟩ = some (.int .i64 Y.f0) ∧ w'.cell? ⟨g, Z.toNat * 3 + 1, none⟩ = some (.int .i64 Y.f1) ∧ w'.cell? ⟨g, J.toNat * 3, none⟩ = some (.int .i64 XX.f0) ∧ w'.cell? ⟨g, J.toNat * 3 + 1, none⟩ = some (.int .i64 XX.f1)) (ds := []) 44 (by kernel_rfl) rfl ⟨q0, q1, p0, p1⟩ (fun hHeld => ?_)
             have HB10 := Lib.hid (below_drew1 HK.out.2.2.2)
             generalize wr.drew = wd at hHeld HR10 HK2 HB10 ⊢
             refine wT mvT23 (fun hT => ?_)
             clear q0 q1 p0 p1 HR9 HK
             by_cases hm : mlt XX Y
             ·have go9 : XX.f1 < Y.f1 ∨ (¬ XX.f1 < Y.f1 ∧ (XX.f1 == Y.f1) = true ∧ XX.f0 < Y.f0) := by
               unfold mlt at hm
               by_cases h : XX.f1 < Y.f1
               ·exact .inl h
               ·exact .inr ⟨h, beq_iff_eq.2 (by omega), by omega⟩
              have HMT := Lib.hid hm
              clear hm
              rcases go9 with g1 | ⟨g1, g2, g3⟩
              all_goals
               repeat (first | refine qP 44 hT ?_ | refine qT 44 hT hHeld ?_)
               refine done_ (by kernel_rfl) ?_
               clear hHeld
               go_wp2
               obtain ⟨⟨q0, q1, q2, p0, p1, p2⟩, ⟨f0, f1, f2⟩, W1, hW1, ⟨u0, u1, u2, v0, v1, v2⟩, ⟨f3, f4, f5⟩, hR2, hB2⟩ := mv_swap (Kd.R_drew HR10.out) HZ.out.2.1 HZ.out.2.2.1
               refine stepS (S := fun w' => w'.cell? ⟨g, Z.toNat * 3, none⟩ = some (.int .i64 Y.f0) ∧ w'.cell? ⟨g, Z.toNat * 3 + 1, none⟩ = some (.int .i64 Y.f1) ∧ w'.cell? ⟨g, Z.toNat * 3 + 2, none⟩ = some (.int .i64 Y.f2) ∧ w'.cell? ⟨g, J.toNat * 3, none⟩ = some (.int .i64 XX.f0) ∧ w'.cell? ⟨g, J.toNat * 3 + 1, none⟩ = some (.int .i64 XX.f1) ∧ w'.cell? ⟨g, J.toNat * 3 + 2, none⟩ = some (.int .i64 XX.f2)) (ds := [15, 17]) 18 (by kernel_rfl) rfl ⟨q0, q1, q2, p0, p1, p2⟩ (fun hHeld => ?_)
               have HN := Lib.hid (And.intro hR2 (hB2 _ (below_drew1 HB10.out)))
               have HW1 := Lib.hid hW1
               generalize wd.drew = we at q0 q1 q2 p0 p1 p2 f0 f1 f2 HW1 hHeld ⊢
               clear hR2 hB2 hW1
               repeat (first | refine rP 18 ?_ | refine rT 18 hHeld ?_)
               refine sS 15 ?_
               clear hHeld q0 q1 q2 p0 p1 p2 f0 f1 f2
               rw [← HW1.out]
               refine rP 18 ?_
               refine sS 17 ?_
               refine done_ (by kernel_rfl) ?_
               clear u0 u1 u2 v0 v1 v2 f3 f4 f5
               go_wp2
               go_roundg (Z.toNat + 1)
               case measure => have := HZ.out.1; omega
               case rel => exact ⟨Z, a', Y :: b, by first | rfl | go_num, by have := HZ.out.1; have := HZ.out.2.2.2.2; omega, rfl, by have := HZ.out.1; omega, Lib.hid ⟨by have := HK2.out.1; rwa [List.append_assoc] at this, fun y hy => (List.mem_cons.1 hy).elim (fun e => e ▸ HMT.out) (HK2.out.2.1 y), HN.out.1, HN.out.2⟩⟩
             ·have go9 : ¬ XX.f1 < Y.f1 ∧ ((XX.f1 == Y.f1) = false ∨ ((XX.f1 == Y.f1) = true ∧ ¬ XX.f0 < Y.f0)) := by
               unfold mlt at hm
               refine ⟨by omega, ?_⟩
               by_cases h : XX.f1 = Y.f1
               ·exact .inr ⟨beq_iff_eq.2 h, by omega⟩
               ·exact .inl (beq_eq_false_iff_ne.2 h)
              have HMT := Lib.hid hm
              clear hm
              obtain ⟨g1, (g2 | ⟨g2, g3⟩)⟩ := go9
              all_goals
               repeat (first | refine qP 44 hT ?_ | refine qT 44 hT hHeld ?_)
               refine done_ (by kernel_rfl) ?_
               clear hHeld
               go_wp2
               have hm9 : (a' ++ [Y]).length + (b.length + 1) = n1 := by have := HZ.out.2.2.2.1; simp; omega
               have hmm : ((a' ++ [Y]) ++ XX :: b).length = n1 := by rw [List.length_append, List.length_cons]; exact hm9
               have HMM := Lib.hid hmm
               clear hm9 hmm
               go_roundg (l.length - j)
               case measure => omega
               case rel => exact ⟨j + 1, (a' ++ [Y]) ++ XX :: b, some ⟨g, 0, none⟩, c1, by omega, by rw [HMM.out], by go_num, by omega, Lib.hid ⟨by rw [HMM.out, List.append_assoc]; exact HR10.out, HB10.out, MgI.ins (by rw [HK2.out.1]; exact HM9.out.1) hlt HNH.out (by rw [HXX.out, HTE.out, HX.out]) (by rw [← HX.out, ← HTE.out]; exact HF.out) (by rw [← HX.out, ← HTE.out]; exact HC9.out) HK2.out.2.1 (fun a2 y e => by
                obtain ⟨_, e2⟩ := List.append_inj' e rfl
                injection e2 with e2
                rw [← e2]
                exact HMT.out), by rw [HMM.out]; have := HN1.out; omega⟩⟩
  ·have e : i = l.length := by omega
   subst e
   go_wp2
   go_ret2
   exact ⟨HL.out.2.1, .inr ⟨m, Ao, co, rfl, HL.out.1, HL.out.2.2.1, HL.out.2.2.2⟩⟩
end Go.Proofs.YtcgdloldkcmhnaaGreat.H
end
section
namespace Go.Proofs.YtcgdloldkcmhnaaGreat.H
open Go Go.RowKit Go.Proofs.YtcgdloldkcmhnaaGreat.PrintC Go.Proofs.YtcgdloldkcmhnaaGreat.PrintE Go.Proofs.YtcgdloldkcmhnaaGreatW.PrintWords Go.Proofs.YtcgdloldkcmhnaaGreatW.PrintLast Go.Proofs.YtcgdloldkcmhnaaGreatW.PrintMore Go.Proofs.YtcgdloldkcmhnaaGreat.Flow
set_option linter.unusedVariables false
set_option linter.unusedSimpArgs false
def gOf (v : Int) : List Grp → Int
 |[] => -1
 |g :: l => if g.f0 = v then g.f1 else gOf v l
theorem gOf_drop {l : List Grp} (v : Int) {i : Nat} (hi : i < l.length) : gOf v (l.drop i) = if (rd_T59 l (i : Int)).f0 = v then (rd_T59 l (i : Int)).f1 else gOf v (l.drop (i + 1)) := by
 have e : rd_T59 l (i : Int) = l[i] := by
  unfold rd_T59
  rw [Int.toNat_natCast, List.getD_eq_getElem?_getD, List.getElem?_eq_getElem hi]
  rfl
 rw [List.drop_eq_getElem_cons hi, e]
 rfl
theorem gOf_neg (v : Int) : ∀ {l : List Grp}, (∀ g, g ∈ l → 0 ≤ g.f1) → (gOf v l < 0 ↔ hasK (putGs l) v = false) := by
 intro l
 rw [hasK_putGs]
 induction l with
 |nil => intro _; exact ⟨fun _ => rfl, fun _ => by unfold gOf; decide⟩
 |cons g l ih =>
  intro h
  have h0 := h g (List.mem_cons_self ..)
  have h1 := ih (fun x hx => h x (List.mem_cons_of_mem _ hx))
  unfold gOf
  rw [List.any_cons]
  by_cases e : g.f0 = v
  ·rw [if_pos e, decide_eq_true e]
   exact ⟨fun h => by omega, fun h => by cases h⟩
  ·rw [if_neg e, decide_eq_false e, Bool.false_or]
   exact h1
set_option maxHeartbeats 4000000 in
set_option maxRecDepth 100000 in
theorem rof_walk (m : Nat) (A : Option Addr) (c : Nat) (l : List Grp) (v : Int) (w : World) (hm : l.length = m) (hr : Kd.C kGrp w A l.length l) (hl : m ≤ 1000000) :
  Calls Tryz.prog 24 #[.slice A m c, .int .i64 v] w fun e w' => e = .returned (.int .i64 (gOf v l)) ∧ Below w.heap.size w w' := by
 subst hm
 have HR := Lib.hid hr
 clear hr
 go_enter Tryz.func24, Tryz.ntmps24
 go_wp2
 go_loopg [5] l.length (fun k iv W => ∃ i : Nat, i ≤ l.length ∧ iv = .int .i64 i ∧ k = l.length - i ∧ Hid (gOf v (l.drop i) = gOf v l ∧ Below w.heap.size w W))
 case atStart => exact ⟨0, Nat.zero_le _, rfl, rfl, Lib.hid ⟨rfl, by first | exact Below.refl _ _ | exact pw_below_drewN (Below.refl _ _) _⟩⟩
 case round =>
  obtain ⟨i, hi, rfl, rfl, HL⟩ := hrel
  by_cases d1 : i < l.length
  ·have i0 : (0 : Int) ≤ (i : Int) := by omega
   have i1 : (i : Int) < (l.length : Int) := by omega
   obtain ⟨ad, ea, y0, y1⟩ := at_T59 (Kd.C_below HR.out HL.out.2) (i : Int) i0 i1
   subst ea
   rw [Int.toNat_natCast] at y0 y1
   have HD := Lib.hid (gOf_drop v d1)
   obtain ⟨g, hg⟩ : ∃ g, g = rd_T59 l (i : Int) := ⟨_, rfl⟩
   rw [← hg] at HD y0 y1
   clear hg
   by_cases d2 : g.f0 = v
   ·have d3 : (g.f0 == v) = true := by simpa using d2
    have d4 : (g.f0 != v) = false := by simpa using d2
    have HD2 : Hid (gOf v (l.drop i) = g.f1) := Lib.hid (by rw [HD.out, if_pos d2])
    clear d2
    go_wp2
    go_ret
    refine ⟨?_, HL.out.2⟩
    rw [← HL.out.1, HD2.out]
    rfl
   ·have d3 : (g.f0 == v) = false := by simpa using d2
    have d4 : (g.f0 != v) = true := by simpa using d2
    have HD2 : Hid (gOf v (l.drop i) = gOf v (l.drop (i + 1))) := Lib.hid (by rw [HD.out, if_neg d2])
    clear d2
    go_wp2
    go_roundg (l.length - (i + 1))
    case measure => omega
    case rel => exact ⟨i + 1, by omega, by go_num, by omega, Lib.hid ⟨by rw [← HL.out.1, HD2.out], HL.out.2⟩⟩
  ·have d2 : ¬ (i : Int) < (l.length : Int) := by omega
   have HE : Hid (l.drop i = []) := Lib.hid (List.drop_of_length_le (by omega))
   go_wp2
   go_ret
   refine ⟨?_, HL.out.2⟩
   rw [← HL.out.1, HE.out]
   rfl
set_option maxHeartbeats 4000000 in
set_option maxRecDepth 100000 in
theorem rkeeps_walk (n : Int) (b : Bool) (vl : Value) (Ap : Option Addr) (cp : Nat) (p : List Grp) (Aq : Option Addr) (cq : Nat) (q : List Grp) (v : Int) (w : World) (hp : Kd.C kGrp w Ap p.length p) (hq : Kd.C kGrp w Aq q.length q) (lp : p.length ≤ 1000000) (lq : q.length ≤ 1000000) (gp : ∀ g, g ∈ p → 0 ≤ g.f1) (gq : ∀ g, g ∈ q → 0 ≤ g.f1) :
  Calls Tryz.prog 30 #[.agg #[.int .i64 n, .bool b, vl], .slice Ap p.length cp, .slice Aq q.length cq, .int .i64 v] w fun e w' => e = .returned (.bool (b || (hasK (putGs p) v || hasK (putGs q) v))) ∧ Below w.heap.size w w' := by
 have hu := Tryz.underlying33
 have HP := Lib.hid hp
 have HQ := Lib.hid hq
 have HGP := Lib.hid (gOf_neg v gp)
 have HGQ := Lib.hid (gOf_neg v gq)
 clear hp hq gp gq
 obtain ⟨x, hx⟩ : ∃ x, x = gOf v p := ⟨_, rfl⟩
 obtain ⟨y, hy⟩ : ∃ y, y = gOf v q := ⟨_, rfl⟩
 have HX := Lib.hid hx
 have HY := Lib.hid hy
 clear hx hy
 cases b with
 |true =>
  go_enter Tryz.func30, Tryz.ntmps30
  go_wp2
  go_ret
  exact ⟨rfl, below_alloc (Below.refl _ _) _⟩
 |false =>
  by_cases c1 : x < 0
  ·have c2 : ¬ 0 ≤ x := by omega
   by_cases c3 : y < 0
   ·have c4 : ¬ 0 ≤ y := by omega
    go_enter Tryz.func30, Tryz.ntmps30
    go_wp2_with (go_at_call 24; go_loud (first | ((with_reducible refine (rof_walk p.length Ap cp p v _ ?s1 ?s2 ?s3).mono ?_); (case s1 => rfl); (case s2 => exact Kd.C_below HP.out (below_alloc (Below.refl _ _) _)); (case s3 => exact lp); rintro e w1 ⟨rfl, hb⟩; rw [← HX.out]; have HB := Lib.hid (below_step (below_alloc (Below.refl _ _) _) hb); clear hb) | ((with_reducible refine (rof_walk q.length Aq cq q v _ ?s1 ?s2 ?s3).mono ?_); (case s1 => rfl); (case s2 => exact Kd.C_below HQ.out HB.out); (case s3 => exact lq); rintro e w2 ⟨rfl, hb⟩; rw [← HY.out]; have HB2 := Lib.hid (below_step HB.out hb); clear hb)))
    go_ret
    refine ⟨?_, HB2.out⟩
    rw [HGP.out.1 (by rw [← HX.out]; exact c1), HGQ.out.1 (by rw [← HY.out]; exact c3)]
    first | rfl | (simp; exact ⟨c1, c3⟩)
   ·have c4 : 0 ≤ y := by omega
    go_enter Tryz.func30, Tryz.ntmps30
    go_wp2_with (go_at_call 24; go_loud (first | ((with_reducible refine (rof_walk p.length Ap cp p v _ ?s1 ?s2 ?s3).mono ?_); (case s1 => rfl); (case s2 => exact Kd.C_below HP.out (below_alloc (Below.refl _ _) _)); (case s3 => exact lp); rintro e w1 ⟨rfl, hb⟩; rw [← HX.out]; have HB := Lib.hid (below_step (below_alloc (Below.refl _ _) _) hb); clear hb) | ((with_reducible refine (rof_walk q.length Aq cq q v _ ?s1 ?s2 ?s3).mono ?_); (case s1 => rfl); (case s2 => exact Kd.C_below HQ.out HB.out); (case s3 => exact lq); rintro e w2 ⟨rfl, hb⟩; rw [← HY.out]; have HB2 := Lib.hid (below_step HB.out hb); clear hb)))
    go_ret
    refine ⟨?_, HB2.out⟩
    have : hasK (putGs q) v = true := by
     cases h : hasK (putGs q) v
     ·have := HGQ.out.2 h; rw [← HY.out] at this; omega
     ·rfl
    rw [this, Bool.or_true, Bool.or_true]
    rfl
  ·have c2 : 0 ≤ x := by omega
   go_enter Tryz.func30, Tryz.ntmps30
   go_wp2_with (go_at_call 24; go_loud ((with_reducible refine (rof_walk p.length Ap cp p v _ ?s1 ?s2 ?s3).mono ?_); (case s1 => rfl); (case s2 => exact Kd.C_below HP.out (below_alloc (Below.refl _ _) _)); (case s3 => exact lp); rintro e w1 ⟨rfl, hb⟩; rw [← HX.out]; have HB := Lib.hid (below_step (below_alloc (Below.refl _ _) _) hb); clear hb))
   go_ret
   refine ⟨?_, HB.out⟩
   have : hasK (putGs p) v = true := by
    cases h : hasK (putGs p) v
    ·have := HGP.out.2 h; rw [← HX.out] at this; omega
    ·rfl
   rw [this, Bool.true_or, Bool.or_true]
   rfl
end Go.Proofs.YtcgdloldkcmhnaaGreat.H
end
section
namespace Go.Proofs.YtcgdloldkcmhnaaGreat.H
open Go Go.RowKit Go.Proofs.YtcgdloldkcmhnaaGreat.PrintC Go.Proofs.YtcgdloldkcmhnaaGreat.PrintE Go.Proofs.YtcgdloldkcmhnaaGreatW.PrintWords Go.Proofs.YtcgdloldkcmhnaaGreatW.PrintLast Go.Proofs.YtcgdloldkcmhnaaGreatW.PrintMore
set_option linter.unusedVariables false
set_option linter.unusedSimpArgs false
def mok (l : List Arc) (h : Int) (q : List Grp) (x : Mv) : Bool := moveOk l h (-1) (-1) x && decide (gOf (arcOf l x).f0 q < 0)
def MvBad (l : List Arc) (h : Int) (q : List Grp) (L : List Mv) (k : Int) : Prop := (k = 10 ∧ ∃ x, x ∈ L ∧ fits (amt L x) = false) ∨ (k = 140 ∧ ∃ m, MgOf L m ∧ ∃ x, x ∈ m ∧ mok l h q x = false)
def RMvAt (l : List Arc) (h : Int) (q : List Grp) (L : List Mv) (w : World) (e : Ending) (w' : World) : Prop := Below w.heap.size w w' ∧ ((∃ k : Int, (k == 0) = false ∧ (k != 0) = true ∧ e = .returned (.tuple #[.slice none 0 0, .int .i64 k]) ∧ MvBad l h q L k) ∨
 ∃ (m : List Mv) (A1 : Option Addr) (c1 : Nat), e = .returned (.tuple #[.slice A1 m.length c1, .int .i64 0]) ∧ Kd.R kMv 76 w' w.heap.size (fun _ => True) (.slice A1 m.length c1) m ∧ MgOf L m ∧ (∀ x, x ∈ m → mok l h q x = true) ∧ m.length ≤ L.length)
set_option maxHeartbeats 8000000 in
set_option maxRecDepth 100000 in
theorem rmvs_walk (n : Int) (b : Bool) (A : Option Addr) (c : Nat) (l : List Arc) (Aq : Option Addr) (cq : Nat) (q : List Grp) (h : Int) (AL : Option Addr) (cL : Nat) (L : List Mv) (w : World) (hr : Kd.C k104 w A l.length l) (hq : Kd.C kGrp w Aq q.length q) (hL : Kd.C kMv w AL L.length L) (hlq : q.length ≤ 1000000)
  (hti : ∀ i : Int, 0 ≤ i → i < l.length → 0 ≤ (rd_T104 l i).f3 ∧ (rd_T104 l i).f3 ≤ 1048576) (h0 : 0 ≤ h) (h1 : h ≤ 100000) (hi : ∀ x, x ∈ L → -9223372036854775808 ≤ x.f2 ∧ x.f2 ≤ 9223372036854775807) (hl : L.length ≤ 100000) :
  Calls Tryz.prog 28 #[.agg #[.int .i64 n, .bool b, .slice A l.length c], .slice Aq q.length cq, .int .i64 h, .slice AL L.length cL] w (RMvAt l h q L w) := by
 have hu := Tryz.underlying33
 have hu2 := Tryz.underlying76
 have hu3 := Tryz.underlying104
 have HR := Lib.hid hr
 have HQ := Lib.hid hq
 have HLL := Lib.hid hL
 have HTI := Lib.hid hti
 have HI := Lib.hid hi
 clear hr hq hL hti hi
 go_enter Tryz.func28, Tryz.ntmps28
 obtain ⟨w1, hw1⟩ : ∃ w1, w1 = w.alloc (.cells #[.int .i64 n, .bool b, .slice A l.length c] 33) := ⟨_, rfl⟩
 have HX : Hid (w1.heap[w.heap.size]? = some (.cells #[.int .i64 n, .bool b, .slice A l.length c] 33 (0, 0)) ∧ Below w.heap.size w w1) := Lib.hid (by rw [hw1]; exact ⟨heap_alloc_new _ _, below_alloc (Below.refl _ _) _⟩)
 have HS1 : Hid (w.heap.size ≤ w1.heap.size) := Lib.hid HX.out.2.size
 go_wp2_with (go_at_call 12; rw [← hw1]; go_loud ((with_reducible refine (rmoves_walk AL cL L _ ?s1 ?s2 ?s3).mono ?_); (case s1 => exact Kd.C_below HLL.out HX.out.2); (case s2 => exact HI.out); (case s3 => exact hl); rintro e w3 ⟨hb, (⟨rfl, hov⟩ | ⟨m, A1, c1, rfl, hm, hmg, hml⟩)⟩; all_goals (have HX3 := Lib.hid (And.intro (blk_below HX.out.1 hb) (below_step HX.out.2 hb)); clear HX)))
 ·go_ret2
  exact ⟨HX3.out.2, .inl ⟨10, rfl, rfl, rfl, .inl ⟨rfl, hov⟩⟩⟩
 have HM := Lib.hid (And.intro hm hmg)
 have HMC := Lib.hid (Kd.R_reads' hm).2.2
 have hmb := Nat.le_trans hml hl
 clear hm hmg hb
 go_loopg [12] (m.length + 1) (fun k iv W => ∃ i : Nat, i ≤ m.length ∧ iv = .int .i64 i ∧ k = m.length + 1 - i ∧ Hid (Below w3.heap.size w3 W ∧ ∀ x, x ∈ m.take i → mok l h q x = true))
 case atStart => exact ⟨0, Nat.zero_le _, rfl, rfl, Lib.hid ⟨Below.refl _ _, fun x hx => by simp at hx⟩⟩
 case round =>
  obtain ⟨i, hi, rfl, rfl, HL⟩ := hrel
  have HB := Lib.hid (below_step HX3.out.2 HL.out.1)
  by_cases hlt : i < m.length
  ·have i0 : (0 : Int) ≤ (i : Int) := by omega
   have i1 : (i : Int) < (m.length : Int) := by omega
   obtain ⟨ad, ea, x0, x1, x2⟩ := at_T76 (Kd.C_drew (Kd.C_below HMC.out HL.out.1)) (i : Int) i0 i1
   subst ea
   rw [Int.toNat_natCast] at x0 x1 x2
   obtain ⟨X, hX⟩ : ∃ X, X = mvAt m i := ⟨_, rfl⟩
   have hX2 : rd_T76 m (i : Int) = X := by rw [hX]; rfl
   rw [hX2] at x0 x1 x2
   have HXE := Lib.hid hX
   clear hX hX2
   have z0 : wr.drew.cell? ⟨w.heap.size, 0, none⟩ = some (.int .i64 n) := (blk_cell (blk_drew (blk_below HX3.out.1 HL.out.1)) 0).trans rfl
   have z1 : wr.drew.cell? ⟨w.heap.size, 1, none⟩ = some (.bool b) := (blk_cell (blk_drew (blk_below HX3.out.1 HL.out.1)) 1).trans rfl
   have z2 : wr.drew.cell? ⟨w.heap.size, 2, none⟩ = some (.slice A l.length c) := (blk_cell (blk_drew (blk_below HX3.out.1 HL.out.1)) 2).trans rfl
   have HB9 := Lib.hid (And.intro (below_drew1 HB.out) (below_drew1 HL.out.1))
   have HXM : Hid (X ∈ m) := Lib.hid (by rw [HXE.out]; exact mvAt_mem hlt)
   cases hRe : moveOk l h (-1) (-1) ⟨X.f0, X.f1, X.f2⟩ with
   |false =>
    have HRE := Lib.hid hRe
    clear hRe
    go_wp2
    refine stepS (S := fun w' => w'.cell? ⟨w.heap.size, 0, none⟩ = some (.int .i64 n) ∧ w'.cell? ⟨w.heap.size, 1, none⟩ = some (.bool b) ∧ w'.cell? ⟨w.heap.size, 2, none⟩ = some (.slice A l.length c) ∧ w'.cell? (ad.add (i * 3)) = some (.int .i64 X.f0) ∧ w'.cell? ⟨(ad.add (i * 3)).block, (ad.add (i * 3)).off + 1, none⟩ = some (.int .i64 X.f1) ∧ w'.cell? ⟨(ad.add (i * 3)).block, (ad.add (i * 3)).off + 2, none⟩ = some (.int .i64 X.f2)) (ds := [6]) 23 (by kernel_rfl) rfl ⟨z0, z1, z2, x0, x1, x2⟩ (fun hHeld => ?_)
    generalize wr.drew = wd at HB9 hHeld ⊢
    clear z0 z1 z2 x0 x1 x2
    repeat (first | refine rP 23 ?_ | refine rT 23 hHeld ?_)
    refine sCL 6 Tryz.func65 #[.agg #[.int .i64 n, .bool b, .slice A l.length c], .int .i64 (-1), .int .i64 (-1), .int .i64 h, .agg #[.int .i64 X.f0, .int .i64 X.f1, .int .i64 X.f2]] (rmove_walk n b A c l (-1) (-1) h X.f0 X.f1 X.f2 false HRE.out.symm _ (Kd.C_below HR.out HB9.out.1) HTI.out h0 h1) ?_
    rintro e w5 ⟨rfl, hb⟩
    refine ⟨_, rfl, ?_⟩
    refine sN ?_
    repeat refine rP 23 ?_
    refine done_ (by kernel_rfl) ?_
    have HB5 := Lib.hid (below_step HB9.out.1 hb)
    clear hb hHeld
    go_wp2
    go_ret2
    exact ⟨HB5.out, .inl ⟨140, rfl, rfl, rfl, .inr ⟨rfl, m, HM.out.2, X, HXM.out, by unfold mok; rw [show X = ⟨X.f0, X.f1, X.f2⟩ from rfl, HRE.out]; rfl⟩⟩⟩
   |true =>
    have hmo := of_decide_eq_true hRe
    have a0 : 0 ≤ X.f0 := hmo.1
    have a1 : X.f0 < l.length := hmo.2.1
    have HRE := Lib.hid hRe
    clear hRe hmo
    obtain ⟨ae, eb, -⟩ := at_T104 HR.out X.f0 a0 a1
    subst eb
    obtain ⟨ae2, e2, y0, -⟩ := at_T104 (Kd.C_below HR.out HB9.out.1) X.f0 a0 a1
    injection e2 with e2
    subst e2
    obtain ⟨Y, hY⟩ : ∃ Y, Y = arcOf l X := ⟨_, rfl⟩
    have hY2 : rd_T104 l X.f0 = Y := by rw [hY]; rfl
    rw [hY2] at y0
    have HY := Lib.hid hY
    clear hY hY2
    obtain ⟨G, hG⟩ : ∃ G, G = gOf Y.f0 q := ⟨_, rfl⟩
    have HG := Lib.hid hG
    clear hG
    have hg : (0 ≤ G ∧ Hid (mok l h q X = false)) ∨ (¬ 0 ≤ G ∧ Hid (mok l h q X = true)) := by
     by_cases g : 0 ≤ G
     ·refine .inl ⟨g, Lib.hid ?_⟩
      unfold mok
      rw [← HY.out, ← HG.out, decide_eq_false (by omega), Bool.and_false]
     ·refine .inr ⟨g, Lib.hid ?_⟩
      unfold mok
      rw [← HY.out, ← HG.out, decide_eq_true (by omega), Bool.and_true]
      exact HRE.out
    go_wp2
    refine stepS (S := fun w' => w'.cell? ⟨w.heap.size, 0, none⟩ = some (.int .i64 n) ∧ w'.cell? ⟨w.heap.size, 1, none⟩ = some (.bool b) ∧ w'.cell? ⟨w.heap.size, 2, none⟩ = some (.slice (some ae) l.length c) ∧ w'.cell? (ad.add (i * 3)) = some (.int .i64 X.f0) ∧ w'.cell? ⟨(ad.add (i * 3)).block, (ad.add (i * 3)).off + 1, none⟩ = some (.int .i64 X.f1) ∧ w'.cell? ⟨(ad.add (i * 3)).block, (ad.add (i * 3)).off + 2, none⟩ = some (.int .i64 X.f2) ∧ w'.cell? (ae.add (X.f0.toNat * 4)) = some (.int .i64 Y.f0)) (ds := [20]) 23 (by kernel_rfl) rfl ⟨z0, z1, z2, x0, x1, x2, y0⟩ (fun hHeld => ?_)
    generalize wr.drew = wd at HB9 hHeld ⊢
    clear z0 z1 z2 x0 x1 x2 y0
    repeat (first | refine rP 23 ?_ | refine rT 23 hHeld ?_)
    refine sC 6 Tryz.func65 #[.agg #[.int .i64 n, .bool b, .slice (some ae) l.length c], .int .i64 (-1), .int .i64 (-1), .int .i64 h, .agg #[.int .i64 X.f0, .int .i64 X.f1, .int .i64 X.f2]] (rmove_walk n b (some ae) c l (-1) (-1) h X.f0 X.f1 X.f2 true HRE.out.symm _ (Kd.C_below HR.out HB9.out.1) HTI.out h0 h1) ?_
    rintro e w5 ⟨rfl, hb⟩
    refine ⟨_, rfl, ⟨pw_cell_below hb hHeld.1, pw_cell_below hb hHeld.2.1, pw_cell_below hb hHeld.2.2.1, pw_cell_below hb hHeld.2.2.2.1, pw_cell_below hb hHeld.2.2.2.2.1, pw_cell_below hb hHeld.2.2.2.2.2.1, pw_cell_below hb hHeld.2.2.2.2.2.2⟩, fun hHeld => ?_⟩
    refine sN ?_
    have HB5 := Lib.hid (And.intro (below_step HB9.out.1 hb) (below_step HB9.out.2 hb))
    clear hb
    repeat (first | refine rP 23 ?_ | refine rT 23 hHeld ?_)
    refine sCL 20 Tryz.func24 #[.slice Aq q.length cq, .int .i64 Y.f0] (rof_walk q.length Aq cq q Y.f0 _ rfl (Kd.C_below HQ.out HB5.out.1) hlq) ?_
    rintro e w6 ⟨rfl, hb⟩
    refine ⟨_, rfl, ?_⟩
    rw [← HG.out]
    refine sN ?_
    repeat refine rP 23 ?_
    refine done_ (by kernel_rfl) ?_
    have HB6 := Lib.hid (And.intro (below_step HB5.out.1 hb) (below_step HB5.out.2 hb))
    clear hb hHeld
    rcases hg with ⟨g1, HMK⟩ | ⟨g1, HMK⟩
    ·go_wp2
     go_ret2
     exact ⟨HB6.out.1, .inl ⟨140, rfl, rfl, rfl, .inr ⟨rfl, m, HM.out.2, X, HXM.out, HMK.out⟩⟩⟩
    ·go_wp2
     go_roundg (m.length - i)
     case measure => omega
     case rel => exact ⟨i + 1, by omega, by go_num, by omega, Lib.hid ⟨HB6.out.2, fun x hx => by
      rw [mvAt_take hlt, List.mem_append, List.mem_singleton] at hx
      rcases hx with hx | rfl
      ·exact HL.out.2 x hx
      ·rw [← HXE.out]
       exact HMK.out⟩⟩
  ·have e : i = m.length := by omega
   subst e
   go_wp2
   go_ret2
   exact ⟨HB.out, .inr ⟨m, A1, c1, rfl, Kd.R_lower (Kd.R_below HM.out.1 HL.out.1) HS1.out, HM.out.2, fun x hx => HL.out.2 x (by rw [List.take_length]; exact hx), hml⟩⟩
end Go.Proofs.YtcgdloldkcmhnaaGreat.H
end
section
namespace Go.Proofs.YtcgdloldkcmhnaaGreat.H
open Go Go.RowKit Go.Proofs.YtcgdloldkcmhnaaGreat.PrintC Go.Proofs.YtcgdloldkcmhnaaGreat.PrintE Go.Proofs.YtcgdloldkcmhnaaGreatW.PrintWords Go.Proofs.YtcgdloldkcmhnaaGreatW.PrintLast Go.Proofs.YtcgdloldkcmhnaaGreatW.PrintMore Go.Proofs.YtcgdloldkcmhnaaGreat.Flow
set_option linter.unusedVariables false
set_option linter.unusedSimpArgs false
abbrev OkAt (w : World) (e : Ending) (w' : World) : Prop := e = .returned (.int .i64 0) ∧ Below w.heap.size w w'
theorem rspan_walk (h : Nat) (w : World) (hh : h ≤ 1024) : Calls Tryz.prog 34 #[.int .i64 h] w (OkAt w) := by
 have d1 : ¬ (h : Int) < 0 := by omega
 have d2 : (h : Int) ≤ 1024 := by omega
 go_enter Tryz.func34, Tryz.ntmps34
 go_wp2
 go_ret
 exact ⟨rfl, Below.refl _ _⟩
set_option maxRecDepth 100000 in
set_option maxHeartbeats 4000000 in
theorem rarc_walk (n : Int) (x : Arc) (w : World) (h : (0 ≤ x.f0 ∧ x.f0 < n) ∧ (0 ≤ x.f1 ∧ x.f1 < n) ∧ (0 ≤ x.f2 ∧ x.f2 ≤ 1048576) ∧ 0 ≤ x.f3 ∧ x.f3 ≤ 1048576) :
  Calls Tryz.prog 67 #[.int .i64 n, .agg #[.int .i64 x.f0, .int .i64 x.f1, .int .i64 x.f2, .int .i64 x.f3]] w (OkAt w) := by
 have d1 : decide (x.f0 < 0) = false := decide_eq_false (by omega)
 have d2 : decide (n ≤ x.f0) = false := decide_eq_false (by omega)
 have d3 : decide (x.f1 < 0) = false := decide_eq_false (by omega)
 have d4 : decide (n ≤ x.f1) = false := decide_eq_false (by omega)
 have d5 : decide (x.f2 < 0) = false := decide_eq_false (by omega)
 have d6 : decide (x.f3 < 0) = false := decide_eq_false (by omega)
 have d7 : decide (1048576 < x.f2) = false := decide_eq_false (by omega)
 have d8 : decide (1048576 < x.f3) = false := decide_eq_false (by omega)
 clear h
 have hu2 := Tryz.underlying104
 go_enter Tryz.func67, Tryz.ntmps67
 go_wp2
 go_ret
 exact ⟨rfl, below_alloc (Below.refl _ _) _⟩
set_option maxRecDepth 100000 in
set_option maxHeartbeats 4000000 in
theorem rcheck_walk (n : Nat) (b : Bool) (A : Option Addr) (c : Nat) (l : List Arc) (w : World) (hg : NetGood n l) (hr : Kd.C kArc w A l.length l) :
  Calls Tryz.prog 32 #[.agg #[.int .i64 n, .bool b, .slice A l.length c]] w (OkAt w) := by
 have hu := Tryz.underlying33
 have hu2 := Tryz.underlying104
 have HR := Lib.hid hr
 have HG := Lib.hid hg.arc
 have d1 : ¬ (n : Int) < 1 := by have := hg.n0; omega
 have d2 : ¬ 50 < (n : Int) := by have := hg.n1; omega
 have d3 : ¬ 200 < (l.length : Int) := by have := hg.ll; omega
 have hll := hg.ll
 clear hg hr
 go_enter Tryz.func32, Tryz.ntmps32
 obtain ⟨w1, hw1⟩ : ∃ w1, w1 = w.alloc (.cells #[.int .i64 n, .bool b, .slice A l.length c] 33) := ⟨_, rfl⟩
 have HX : Hid (w1.heap[w.heap.size]? = some (.cells #[.int .i64 n, .bool b, .slice A l.length c] 33 (0, 0)) ∧ Below w.heap.size w w1) := Lib.hid (by rw [hw1]; exact ⟨heap_alloc_new _ _, below_alloc (Below.refl _ _) _⟩)
 go_wp2
 rw [← hw1]
 clear hw1
 go_loopg [4] (l.length + 1) (fun k iv W => ∃ i : Nat, i ≤ l.length ∧ iv = .int .i64 i ∧ k = l.length + 1 - i ∧ Hid (W.heap[w.heap.size]? = some (.cells #[.int .i64 n, .bool b, .slice A l.length c] 33 (0, 0)) ∧ Below w.heap.size w W))
 case atStart => exact ⟨0, Nat.zero_le _, rfl, rfl, HX⟩
 case round =>
  obtain ⟨i, hi, rfl, rfl, HL⟩ := hrel
  clear HX
  have q2 : wr.cell? ⟨w.heap.size, 2, none⟩ = some (.slice A l.length c) := (blk_cell HL.out.1 2).trans rfl
  by_cases d4 : i < l.length
  ·have i0 : (0 : Int) ≤ (i : Int) := by omega
   have i1 : (i : Int) < (l.length : Int) := by omega
   have HXG := Lib.hid (HG.out i d4)
   go_wp2
   clear q2
   obtain ⟨ad, ea, y0, y1, y2, y3⟩ := at_T104 (Kd.C_drew (Kd.C_below HR.out HL.out.2)) (i : Int) i0 i1
   subst ea
   rw [Int.toNat_natCast] at y0 y1 y2 y3
   obtain ⟨x, hx⟩ : ∃ x, x = arcAt l i := ⟨_, rfl⟩
   have hx2 : rd_T104 l (i : Int) = x := by rw [hx]; rfl
   rw [hx2] at y0 y1 y2 y3
   rw [← hx] at HXG
   clear hx hx2
   have x0 : wr.drew.cell? ⟨w.heap.size, 0, none⟩ = some (.int .i64 n) := (blk_cell (blk_drew HL.out.1) 0).trans rfl
   have x2 : wr.drew.cell? ⟨w.heap.size, 2, none⟩ = some (.slice (some ad) l.length c) := (blk_cell (blk_drew HL.out.1) 2).trans rfl
   have HX1 := Lib.hid (And.intro (blk_drew HL.out.1) (below_drew1 HL.out.2))
   refine stepS (S := fun w' => w'.cell? ⟨w.heap.size, 0, none⟩ = some (.int .i64 n) ∧ w'.cell? ⟨w.heap.size, 2, none⟩ = some (.slice (some ad) l.length c) ∧ w'.cell? (ad.add (i * 4)) = some (.int .i64 x.f0) ∧ w'.cell? ⟨(ad.add (i * 4)).block, (ad.add (i * 4)).off + 1, none⟩ = some (.int .i64 x.f1) ∧ w'.cell? ⟨(ad.add (i * 4)).block, (ad.add (i * 4)).off + 2, none⟩ = some (.int .i64 x.f2) ∧ w'.cell? ⟨(ad.add (i * 4)).block, (ad.add (i * 4)).off + 3, none⟩ = some (.int .i64 x.f3)) (ds := [7]) 9 (by kernel_rfl) rfl ⟨x0, x2, y0, y1, y2, y3⟩ (fun hHeld => ?_)
   generalize wr.drew = wd at HX1 hHeld x0 x2 y0 y1 y2 y3 ⊢
   repeat (first | refine rP 9 ?_ | refine rT 9 hHeld ?_)
   refine stepL 9 (N := some 30) rfl rfl (by kernel_rfl) (by decide) (fun K hK => ?_)
   refine goes_ Tryz.func67 (by kernel_rfl) rfl #[.int .i64 n, .agg #[.int .i64 x.f0, .int .i64 x.f1, .int .i64 x.f2, .int .i64 x.f3]] (by rfl) rfl rfl (by (try simp only [List.map_toArray, List.map_cons, List.map_nil]); rfl) ?_
   refine (rarc_walk n x _ HXG.out).mono ?_
   rintro e w5 ⟨rfl, hb⟩
   refine ⟨_, rfl, ?_⟩
   have HX2 := Lib.hid (And.intro (blk_below HX1.out.1 hb) (below_step HX1.out.2 hb))
   refine hK.out _ _ ?_
   clear hK K hHeld hb HX1 x0 x2 y0 y1 y2 y3
   refine sN ?_
   refine rP 9 ?_
   refine done_ (by kernel_rfl) ?_
   go_wp2
   go_roundg (l.length - i)
   case measure => omega
   case rel => exact ⟨i + 1, by omega, by go_num, by omega, HX2⟩
  ·have d5 : ¬ (i : Int) < (l.length : Int) := by omega
   go_wp2
   go_ret
   exact ⟨rfl, HL.out.2⟩
set_option maxRecDepth 100000 in
theorem rnode_walk (n : Int) (b : Bool) (vl : Value) (v : Int) (w : World) (h : 0 ≤ v ∧ v < n) :
  Calls Tryz.prog 86 #[.agg #[.int .i64 n, .bool b, vl], .int .i64 v] w fun e w' => e = .returned (.bool true) ∧ Below w.heap.size w w' := by
 have hu := Tryz.underlying33
 have d1 : decide (0 ≤ v) = true := decide_eq_true h.1
 have d2 : decide (v < n) = true := decide_eq_true h.2
 clear h
 go_enter Tryz.func86, Tryz.ntmps86
 go_wp2
 go_ret
 exact ⟨rfl, below_alloc (Below.refl _ _) _⟩
set_option maxRecDepth 100000 in
set_option maxHeartbeats 4000000 in
theorem rgroup_walk (n : Int) (b : Bool) (vl : Value) (A : Option Addr) (c : Nat) (L : List Grp) (m : Nat) (hm : L.length = m) (g : Grp) (w : World) (hr : Kd.C kGrp w A L.length L) (hl : m ≤ 1000000) (h1 : 0 ≤ g.f0 ∧ g.f0 < n) (h2 : 0 ≤ g.f1 ∧ g.f1 ≤ 1048576) (h3 : gOf g.f0 L < 0) :
  Calls Tryz.prog 68 #[.agg #[.int .i64 n, .bool b, vl], .slice A m c, .agg #[.int .i64 g.f0, .int .i64 g.f1]] w (OkAt w) := by
 have hu := Tryz.underlying33
 have hu3 := Tryz.underlying59
 have HR := Lib.hid hr
 obtain ⟨y, hy⟩ : ∃ y, y = gOf g.f0 L := ⟨_, rfl⟩
 rw [← hy] at h3
 have HY := Lib.hid hy
 have d1 : decide (0 ≤ g.f0) = true := decide_eq_true h1.1
 have d2 : decide (g.f0 < n) = true := decide_eq_true h1.2
 have d3 : decide (g.f1 < 0) = false := decide_eq_false (by omega)
 have d4 : decide (0 ≤ y) = false := decide_eq_false (by omega)
 have d5 : ¬ 1048576 < g.f1 := by omega
 have HM := Lib.hid hm
 clear hr hy h1 h2 hm
 go_enter Tryz.func68, Tryz.ntmps68
 obtain ⟨w1, hw1⟩ : ∃ w1, w1 = (w.alloc (.cells #[.int .i64 n, .bool b, vl] 33)).alloc (.cells #[.int .i64 g.f0, .int .i64 g.f1] 59) := ⟨_, rfl⟩
 have HB0 : Hid (Below w.heap.size w w1) := Lib.hid (by rw [hw1]; exact below_alloc (below_alloc (Below.refl _ _) _) _)
 have v0 : w1.cell? ⟨w.heap.size + 1, 0, none⟩ = some (.int .i64 g.f0) := by rw [hw1]; exact (blk_cell (alloc_at (by rw [alloc_size])) 0).trans rfl
 have v1 : w1.cell? ⟨w.heap.size + 1, 1, none⟩ = some (.int .i64 g.f1) := by rw [hw1]; exact (blk_cell (alloc_at (by rw [alloc_size])) 1).trans rfl
 go_wp2_with (first
  |(go_at_call 86; rw [← hw1]; go_loud ((with_reducible refine (rnode_walk n b vl _ _ ?s1).mono ?_); (case s1 => exact ⟨of_decide_eq_true d1, of_decide_eq_true d2⟩); rintro e w2 ⟨rfl, hb⟩; have HB1 := Lib.hid (below_step HB0.out hb); have u0 := pw_cell_below hb v0; have u1 := pw_cell_below hb v1; clear hb))
  |(go_at_call 24; go_loud ((with_reducible refine (rof_walk m A c L _ _ ?s1 ?s2 ?s3).mono ?_); (case s1 => exact HM.out); (case s2 => exact Kd.C_below HR.out HB1.out); (case s3 => exact hl); rintro e w3 ⟨rfl, hb⟩; rw [← HY.out]; have HB2 := Lib.hid (below_step HB1.out hb); have t1 := pw_cell_below hb u1; clear hb)))
 go_ret
 exact ⟨rfl, HB2.out⟩
theorem infoGp : (Tryz.prog.info? 59).map (fun i => (i.zero, i.size, i.bytes)) = some (some (.agg #[.int .i64 0, .int .i64 0]), 2, 16) := by kernel_rfl
theorem take_sn {l : List Grp} {i : Nat} (h : i < l.length) : l.take (i + 1) = l.take i ++ [rd_T59 l (i : Int)] := by
 have e : rd_T59 l (i : Int) = l[i] := by
  unfold rd_T59
  rw [Int.toNat_natCast, List.getD_eq_getElem?_getD, List.getElem?_eq_getElem h]
  rfl
 rw [List.take_add_one, List.getElem?_eq_getElem h, e]
 rfl
theorem snoc_tk {l : List Grp} {g : Grp} {i m : Nat} (hm : l.length = m) (h : i < m) : (l.take i ++ [g]).length = i + 1 := by
 rw [List.length_append, List.length_take, List.length_singleton]
 omega
theorem gOf_none (v : Int) : ∀ {l : List Grp}, (∀ g, g ∈ l → g.f0 ≠ v) → gOf v l < 0
 |[], _ => by unfold gOf; decide
 |g :: l, h => by
  unfold gOf
  rw [if_neg (h g (List.mem_cons_self ..))]
  exact gOf_none v (fun x hx => h x (List.mem_cons_of_mem _ hx))
theorem grp_ahead {n : Int} {p q : List Grp} (h : GroupsOk n p q) {i : Nat} (hi : i < (p ++ q).length) : ((0 ≤ (rd_T59 (p ++ q) (i : Int)).f0 ∧ (rd_T59 (p ++ q) (i : Int)).f0 < n) ∧ 0 ≤ (rd_T59 (p ++ q) (i : Int)).f1 ∧ (rd_T59 (p ++ q) (i : Int)).f1 ≤ 1048576) ∧ gOf (rd_T59 (p ++ q) (i : Int)).f0 ((p ++ q).take i) < 0 := by
 have e : rd_T59 (p ++ q) (i : Int) = (p ++ q)[i] := by
  unfold rd_T59
  rw [Int.toNat_natCast, List.getD_eq_getElem?_getD, List.getElem?_eq_getElem hi]
  rfl
 rw [e]
 have hm := List.getElem_mem hi
 refine ⟨(List.mem_append.1 hm).elim (h.gp _) (h.gq _), gOf_none _ (fun g hg e2 => ?_)⟩
 have hnd : ((p ++ q).map fun g => g.f0).Nodup := by
  rw [List.map_append, List.nodup_append]
  refine ⟨h.dp, h.dq, fun a ha c hc => ?_⟩
  obtain ⟨x, hx, rfl⟩ := List.mem_map.1 ha
  obtain ⟨y, hy, rfl⟩ := List.mem_map.1 hc
  exact h.apart y hy x hx
 obtain ⟨j, hj, rfl⟩ := List.getElem_of_mem hg
 rw [List.length_take] at hj
 rw [List.getElem_take] at e2
 have h1 : ((p ++ q).map fun g => g.f0)[j]'(by rw [List.length_map]; omega) = ((p ++ q).map fun g => g.f0)[i]'(by rw [List.length_map]; omega) := by rw [List.getElem_map, List.getElem_map, e2]
 have h2 := (List.getElem_inj hnd).1 h1
 omega
set_option maxRecDepth 100000 in
set_option maxHeartbeats 4000000 in
theorem rgroups_walk (n : Int) (b : Bool) (vl : Value) (Ap : Option Addr) (cp : Nat) (p : List Grp) (Aq : Option Addr) (cq : Nat) (q : List Grp) (w : World) (h : GroupsOk n p q) (hp : Kd.C kGrp w Ap p.length p) (hq : Kd.C kGrp w Aq q.length q) (lp : p.length ≤ 1000) (lq : q.length ≤ 1000) :
  Calls Tryz.prog 33 #[.agg #[.int .i64 n, .bool b, vl], .slice Ap p.length cp, .slice Aq q.length cq] w (OkAt w) := by
 have hu := Tryz.underlying33
 have hu3 := Tryz.underlying59
 have HP := Lib.hid hp
 have HQ := Lib.hid hq
 have HG := Lib.hid h
 have p1 : p.length ≠ 0 := fun e => h.p0 (List.length_eq_zero_iff.1 e)
 have q1 : q.length ≠ 0 := fun e => h.q0 (List.length_eq_zero_iff.1 e)
 have p0 : ((p.length : Int) == 0) = false := by rw [beq_eq_false_iff_ne]; omega
 have q0 : ((q.length : Int) == 0) = false := by rw [beq_eq_false_iff_ne]; omega
 clear hp hq h p1 q1
 go_enter Tryz.func33, Tryz.ntmps33
 obtain ⟨w1, hw1⟩ : ∃ w1, w1 = w.alloc (.cells #[.int .i64 n, .bool b, vl] 33) := ⟨_, rfl⟩
 have HX : Hid (w1.heap[w.heap.size]? = some (.cells #[.int .i64 n, .bool b, vl] 33 (0, 0)) ∧ Below w.heap.size w w1) := Lib.hid (by rw [hw1]; exact ⟨heap_alloc_new _ _, below_alloc (Below.refl _ _) _⟩)
 go_wp2_with (first
  |((with_reducible refine gate_builtin (b := .append) (xs := #[.tmp 19, .tmp 20]) rfl ?_); (try (refine gate_guard (by rfl) ?_; dsimp only)); at_builtin; rw [← hw1]; go_loud (refine Kd.R_append_rows kGrp (w0 := w) w.heap.size rfl (.tmp 19) (.tmp 20) 34 59 (.agg #[.int .i64 0, .int .i64 0]) 16 rfl Tryz.underlying34 infoGp rfl (by decide) (by decide) (.slice none 0 0) ([] : List Grp) p _ _ _ (fun _ => True) (fun _ => False) rfl rfl ?aO ?aR (fun _ _ h => h) (fun _ h => h.elim) ?aF ?aB ?aS ?aL ?_); (case aR => exact Kd.C_below HP.out HX.out.2); (case aB => exact HX.out.2); (case aF => exact fun _ _ => trivial); (case aO => exact Kd.R_nil _ _ _ _ _); (case aS => exact (HX.out.2).size); (case aL => show (0 + p.length) * 16 ≤ 140737488355328; omega); go_loud ((intro v1 w2 ho hb hg hat; rw [List.nil_append] at ho; have HX2 := Lib.hid (And.intro (blk_grown HX.out.1 hg (Kd.R_ne (Kd.R_nil kGrp 59 _ w.heap.size (fun _ => True)) HX.out.1 (by decide))) (And.intro hb ho)); obtain ⟨A1, c1, rfl⟩ := Kd.R_slice ho; clear ho hb hg hat)))
  |((with_reducible refine gate_builtin (b := .append) (xs := #[.tmp 22, .tmp 23]) rfl ?_); (try (refine gate_guard (by rfl) ?_; dsimp only)); at_builtin; go_loud (refine Kd.R_append_rows kGrp (w0 := w) w.heap.size rfl (.tmp 22) (.tmp 23) 34 59 (.agg #[.int .i64 0, .int .i64 0]) 16 rfl Tryz.underlying34 infoGp rfl (by decide) (by decide) (.slice A1 p.length c1) (p) q _ _ _ (fun _ => True) (fun _ => False) rfl rfl ?aO ?aR (fun _ _ h => h) (fun _ h => h.elim) ?aF ?aB ?aS ?aL ?_); (case aR => exact Kd.C_below HQ.out HX2.out.2.1); (case aB => exact HX2.out.2.1); (case aF => exact fun _ _ => trivial); (case aO => exact HX2.out.2.2); (case aS => exact (HX2.out.2.1).size); (case aL => show (p.length + q.length) * 16 ≤ 140737488355328; omega); go_loud ((intro v1 w3 ho hb hg hat; have HX3 := Lib.hid (And.intro (blk_grown HX2.out.1 hg (Kd.R_ne HX2.out.2.2 HX2.out.1 (by decide))) (And.intro hb ho)); obtain ⟨A2, c2, rfl⟩ := Kd.R_slice ho; clear ho hb hg hat))))
 obtain ⟨L, hL⟩ : ∃ L, L = p ++ q := ⟨_, rfl⟩
 obtain ⟨m, hm⟩ : ∃ m : Nat, m = p.length + q.length := ⟨_, rfl⟩
 have hLm : L.length = m := by rw [hL, hm, List.length_append]
 have HGA : Hid (∀ i : Nat, i < L.length → ((0 ≤ (rd_T59 L (i : Int)).f0 ∧ (rd_T59 L (i : Int)).f0 < n) ∧ 0 ≤ (rd_T59 L (i : Int)).f1 ∧ (rd_T59 L (i : Int)).f1 ≤ 1048576) ∧ gOf (rd_T59 L (i : Int)).f0 (L.take i) < 0) := Lib.hid (by rw [hL]; exact fun i hi => grp_ahead HG.out hi)
 have HX4 : Hid (w3.heap[w.heap.size]? = some (.cells #[.int .i64 n, .bool b, vl] 33 (0, 0)) ∧ Below w.heap.size w w3 ∧ Kd.C kGrp w3 A2 L.length L) := Lib.hid ⟨HX3.out.1, HX3.out.2.1, by rw [hL]; exact (Kd.R_reads' HX3.out.2.2).2.2⟩
 have hmb : m ≤ 2000 := by omega
 have HLM := Lib.hid hLm
 rw [← hm]
 clear hL hm hLm HX HX2 HX3 HG HP HQ hw1 p0 q0 lp lq w1 w2
 go_loopg [7, 9] (m + 1) (fun k ov iv W => ∃ (i : Nat) (A3 : Option Addr) (c3 : Nat), i ≤ m ∧ ov = .slice A3 i c3 ∧ iv = .int .i64 i ∧ k = m + 1 - i ∧ Hid (Kd.R kGrp 59 W w3.heap.size (fun _ => True) (.slice A3 i c3) (L.take i) ∧ Below w3.heap.size w3 W))
 case atStart => exact ⟨0, none, 0, Nat.zero_le _, rfl, rfl, rfl, Lib.hid ⟨Kd.R_nil _ _ _ _ _, Below.refl _ _⟩⟩
 case round =>
  obtain ⟨i, A3, c3, hi, rfl, rfl, rfl, HL⟩ := hrel
  by_cases d4 : i < m
  ·have i0 : (0 : Int) ≤ (i : Int) := by omega
   have i1 : (i : Int) < (m : Int) := by omega
   have HXG := Lib.hid (HGA.out i (by rw [HLM.out]; exact d4))
   have HTK := Lib.hid (take_sn (l := L) (i := i) (by rw [HLM.out]; exact d4))
   go_wp2
   obtain ⟨ad, ea, y0, y1⟩ := at_T59 (Kd.C_drew (Kd.C_below HX4.out.2.2 HL.out.2)) (i : Int) i0 (by rw [HLM.out]; exact i1)
   obtain ⟨g, hg⟩ : ∃ g, g = rd_T59 L (i : Int) := ⟨_, rfl⟩
   have ZF : Hid (∀ W, Below w3.heap.size w3 W → W.cell? (ad.add (i * 2)) = some (.int .i64 g.f0) ∧ W.cell? ⟨(ad.add (i * 2)).block, (ad.add (i * 2)).off + 1, none⟩ = some (.int .i64 g.f1)) := Lib.hid (fun W hW => by
    obtain ⟨ad2, ea2, z0, z1⟩ := at_T59 (Kd.C_below HX4.out.2.2 hW) (i : Int) i0 (by rw [HLM.out]; exact i1)
    rw [ea] at ea2
    injection ea2 with ea2
    subst ea2
    rw [Int.toNat_natCast, ← hg] at z0 z1
    exact ⟨z0, z1⟩)
   subst ea
   rw [Int.toNat_natCast] at y0 y1
   rw [← hg] at y0 y1 HXG HTK
   clear hg
   have hbx := blk_drew (blk_below HX4.out.1 HL.out.2)
   have x0 : wr.drew.cell? ⟨w.heap.size, 0, none⟩ = some (.int .i64 n) := (blk_cell hbx 0).trans rfl
   have x1 : wr.drew.cell? ⟨w.heap.size, 1, none⟩ = some (.bool b) := (blk_cell hbx 1).trans rfl
   have x2 : wr.drew.cell? ⟨w.heap.size, 2, none⟩ = some vl := (blk_cell hbx 2).trans rfl
   have HX1 := Lib.hid (And.intro (Kd.R_drew HL.out.1) (below_drew1 HL.out.2))
   clear hbx
   refine stepS (S := fun w' => w'.cell? ⟨w.heap.size, 0, none⟩ = some (.int .i64 n) ∧ w'.cell? ⟨w.heap.size, 1, none⟩ = some (.bool b) ∧ w'.cell? ⟨w.heap.size, 2, none⟩ = some vl ∧ w'.cell? (ad.add (i * 2)) = some (.int .i64 g.f0) ∧ w'.cell? ⟨(ad.add (i * 2)).block, (ad.add (i * 2)).off + 1, none⟩ = some (.int .i64 g.f1)) (ds := [6]) 8 (by kernel_rfl) rfl ⟨x0, x1, x2, y0, y1⟩ (fun hHeld => ?_)
   generalize wr.drew = wd at HX1 hHeld x0 x1 x2 y0 y1 ⊢
   repeat (first | refine rP 8 ?_ | refine rT 8 hHeld ?_)
   refine stepL 8 (N := some 37) rfl rfl (by kernel_rfl) (by decide) (fun K hK => ?_)
   refine goes_ Tryz.func68 (by kernel_rfl) rfl #[.agg #[.int .i64 n, .bool b, vl], .slice A3 i c3, .agg #[.int .i64 g.f0, .int .i64 g.f1]] (by rfl) rfl rfl (by (try simp only [List.map_toArray, List.map_cons, List.map_nil]); rfl) ?_
   have hti : (L.take i).length = i := by rw [List.length_take, HLM.out]; omega
   have hrc := (Kd.R_reads' (show Kd.R kGrp 59 wd w3.heap.size (fun _ => True) (.slice A3 (L.take i).length c3) (L.take i) by rw [hti]; exact HX1.out.1)).2.2
   refine (rgroup_walk n b vl A3 c3 (L.take i) i hti g _ hrc (by omega) HXG.out.1.1 HXG.out.1.2 HXG.out.2).mono ?_
   rintro e w5 ⟨rfl, hb⟩
   refine ⟨_, rfl, ?_⟩
   have HX5 := Lib.hid (And.intro (Kd.R_below HX1.out.1 hb) (below_step HX1.out.2 hb))
   have z0 := (ZF.out _ HX5.out.2).1
   have z1 := (ZF.out _ HX5.out.2).2
   refine hK.out _ _ ?_
   clear hK K hHeld hb HX1 x0 x1 x2 y0 y1 hrc hti
   refine sN ?_
   refine rP 8 ?_
   refine done_ (by kernel_rfl) ?_
   go_wp2_with ((with_reducible refine gate_dst (N := 47) rfl ?_); go_loud (refine Kd.R_append kGrp (w0 := w3) w3.heap.size rfl (.tmp 41) (.tmp 46) 34 59 (.agg #[.int .i64 0, .int .i64 0]) 16 rfl Tryz.underlying34 infoGp rfl (by decide) (by decide) (.slice A3 i c3) (L.take i) g [.int .i64 g.f0, .int .i64 g.f1] (fun _ => True) (fun _ => False) rfl ?aX ?aP (fun _ hk => hk.elim) ?aF ?aO ?aB ?aS ?aL ?_); (case aX => first | rfl | (simp; done) | (simp; rfl)); (case aP => exact k59_mkM _ _ _ g); (case aF => exact fun _ _ => trivial); (case aO => exact HX5.out.1); (case aB => exact HX5.out.2); (case aS => exact HX5.out.2.size); (case aL => rw [List.length_take]; omega); go_loud ((intro v1 w9 ho hb hg hat; obtain ⟨A9, c9, e9⟩ := Kd.R_slice ho; rw [snoc_tk (l := L) (i := i) HLM.out d4] at e9; subst e9; have HX9 := Lib.hid (And.intro ho hb); clear ho hb hg hat)))
   go_roundg (m - i)
   case measure => omega
   case rel => exact ⟨i + 1, A9, c9, by omega, rfl, by go_num, by omega, Lib.hid ⟨by rw [HTK.out]; exact HX9.out.1, HX9.out.2⟩⟩
  ·have d5 : ¬ (i : Int) < (m : Int) := by omega
   go_wp2
   go_ret
   exact ⟨rfl, below_step HX4.out.2.1 HL.out.2⟩
set_option maxRecDepth 100000 in
set_option maxHeartbeats 4000000 in
theorem rfits_walk (n h : Nat) (b : Bool) (A : Option Addr) (c : Nat) (l : List Arc) (w : World) (hg : NetGood n l) (hr : Kd.C kArc w A l.length l) (hh : h ≤ 1024) (h1 : (h + 1) * n ≤ 4000) (h2 : (h + 1) * l.length ≤ 10000) :
  Calls Tryz.prog 35 #[.agg #[.int .i64 n, .bool b, .slice A l.length c], .int .i64 h] w fun e w' => e = .returned (.bool true) ∧ Below w.heap.size w w' := by
 have hu := Tryz.underlying33
 have HR := Lib.hid hr
 have HG := Lib.hid hg
 have hll := hg.ll
 have hn1 := hg.n1
 obtain ⟨x, hx⟩ : ∃ x : Nat, x = (h + 1) * n := ⟨_, rfl⟩
 obtain ⟨y, hy⟩ : ∃ y : Nat, y = (h + 1) * l.length := ⟨_, rfl⟩
 rw [← hx] at h1
 rw [← hy] at h2
 have e0 : IntKind.i64.wrap ((h : Int) + 1) = (h : Int) + 1 := IntWalk.i64_in _ (by omega)
 have e1 : IntKind.i64.wrap (((h : Int) + 1) * (n : Int)) = (x : Int) := by
  have h8 : ((h : Int) + 1) * (n : Int) = (x : Int) := by rw [hx, Int.natCast_mul]; rfl
  rw [h8]
  exact IntWalk.i64_in _ (by omega)
 have e2 : IntKind.i64.wrap (((h : Int) + 1) * (l.length : Int)) = (y : Int) := by
  have h8 : ((h : Int) + 1) * (l.length : Int) = (y : Int) := by rw [hy, Int.natCast_mul]; rfl
  rw [h8]
  exact IntWalk.i64_in _ (by omega)
 have d1 : decide ((x : Int) ≤ 4000) = true := decide_eq_true (by omega)
 have d2 : decide ((y : Int) ≤ 10000) = true := decide_eq_true (by omega)
 clear hr hg hx hy h1 h2
 go_enter Tryz.func35, Tryz.ntmps35
 obtain ⟨w1, hw1⟩ : ∃ w1, w1 = w.alloc (.cells #[.int .i64 n, .bool b, .slice A l.length c] 33) := ⟨_, rfl⟩
 have HX : Hid (w1.heap[w.heap.size]? = some (.cells #[.int .i64 n, .bool b, .slice A l.length c] 33 (0, 0)) ∧ Below w.heap.size w w1) := Lib.hid (by rw [hw1]; exact ⟨heap_alloc_new _ _, below_alloc (Below.refl _ _) _⟩)
 go_wp2_with (first
  |(go_at_call 32; rw [← hw1]; go_loud ((with_reducible refine (rcheck_walk n b A c l _ ?s1 ?s2).mono ?_); (case s1 => exact HG.out); (case s2 => exact Kd.C_below HR.out HX.out.2); rintro e w2 ⟨rfl, hb⟩; have HX2 := Lib.hid (And.intro (blk_below HX.out.1 hb) (below_step HX.out.2 hb)); clear hb))
  |(go_at_call 34; go_loud ((with_reducible refine (rspan_walk h _ ?s1).mono ?_); (case s1 => exact hh); rintro e w3 ⟨rfl, hb⟩; have HX3 := Lib.hid (And.intro (blk_below HX2.out.1 hb) (below_step HX2.out.2 hb)); have x0 : w3.cell? ⟨w.heap.size, 0, none⟩ = some (.int .i64 n) := (blk_cell HX3.out.1 0).trans rfl; have x2 : w3.cell? ⟨w.heap.size, 2, none⟩ = some (.slice A l.length c) := (blk_cell HX3.out.1 2).trans rfl; clear hb)))
 go_ret
 exact ⟨rfl, HX3.out.2⟩
set_option maxRecDepth 100000 in
set_option maxHeartbeats 4000000 in
theorem rasked_walk (n h : Nat) (b : Bool) (A : Option Addr) (c : Nat) (l : List Arc) (Ap : Option Addr) (cp : Nat) (p : List Grp) (Aq : Option Addr) (cq : Nat) (q : List Grp) (w : World) (a : AskOk n h l p q) (hr : Kd.C kArc w A l.length l) (hp : Kd.C kGrp w Ap p.length p) (hq : Kd.C kGrp w Aq q.length q) :
  Calls Tryz.prog 14 #[.agg #[.int .i64 n, .bool b, .slice A l.length c], .slice Ap p.length cp, .slice Aq q.length cq, .int .i64 h] w (OkAt w) := by
 have hu := Tryz.underlying33
 have HA := Lib.hid a
 have HR := Lib.hid hr
 have HP := Lib.hid hp
 have HQ := Lib.hid hq
 clear a hr hp hq
 go_enter Tryz.func14, Tryz.ntmps14
 obtain ⟨w1, hw1⟩ : ∃ w1, w1 = w.alloc (.cells #[.int .i64 n, .bool b, .slice A l.length c] 33) := ⟨_, rfl⟩
 have HX : Hid (w1.heap[w.heap.size]? = some (.cells #[.int .i64 n, .bool b, .slice A l.length c] 33 (0, 0)) ∧ Below w.heap.size w w1) := Lib.hid (by rw [hw1]; exact ⟨heap_alloc_new _ _, below_alloc (Below.refl _ _) _⟩)
 go_wp2_with (first
  |(go_at_call 32; rw [← hw1]; go_loud ((with_reducible refine (rcheck_walk n b A c l _ ?s1 ?s2).mono ?_); (case s1 => exact HA.out.net); (case s2 => exact Kd.C_below HR.out HX.out.2); rintro e w2 ⟨rfl, hb⟩; have HX2 := Lib.hid (And.intro (blk_below HX.out.1 hb) (below_step HX.out.2 hb)); have x0 : w2.cell? ⟨w.heap.size, 0, none⟩ = some (.int .i64 n) := (blk_cell HX2.out.1 0).trans rfl; have x1 : w2.cell? ⟨w.heap.size, 1, none⟩ = some (.bool b) := (blk_cell HX2.out.1 1).trans rfl; have x2 : w2.cell? ⟨w.heap.size, 2, none⟩ = some (.slice A l.length c) := (blk_cell HX2.out.1 2).trans rfl; clear hb))
  |(go_at_call 33; go_loud ((with_reducible refine (rgroups_walk n b (.slice A l.length c) Ap cp p Aq cq q _ ?s1 ?s2 ?s3 ?s4 ?s5).mono ?_); (case s1 => exact HA.out.grp); (case s2 => exact Kd.C_below HP.out HX2.out.2); (case s3 => exact Kd.C_below HQ.out HX2.out.2); (case s4 => exact HA.out.place.lp); (case s5 => exact HA.out.place.lq); rintro e w3 ⟨rfl, hb⟩; have HX3 := Lib.hid (And.intro (blk_below HX2.out.1 hb) (below_step HX2.out.2 hb)); clear hb))
  |(go_at_call 34; go_loud ((with_reducible refine (rspan_walk h _ ?s1).mono ?_); (case s1 => exact HA.out.hh); rintro e w4 ⟨rfl, hb⟩; have HX4 := Lib.hid (And.intro (blk_below HX3.out.1 hb) (below_step HX3.out.2 hb)); have z0 : w4.cell? ⟨w.heap.size, 0, none⟩ = some (.int .i64 n) := (blk_cell HX4.out.1 0).trans rfl; have z1 : w4.cell? ⟨w.heap.size, 1, none⟩ = some (.bool b) := (blk_cell HX4.out.1 1).trans rfl; have z2 : w4.cell? ⟨w.heap.size, 2, none⟩ = some (.slice A l.length c) := (blk_cell HX4.out.1 2).trans rfl; clear hb))
  |(go_at_call 35; go_loud ((with_reducible refine (rfits_walk n h b A c l _ ?s1 ?s2 ?s3 ?s4 ?s5).mono ?_); (case s1 => exact HA.out.net); (case s2 => exact Kd.C_below HR.out HX4.out.2); (case s3 => exact HA.out.hh); (case s4 => exact HA.out.hn); (case s5 => exact HA.out.hl); rintro e w5 ⟨rfl, hb⟩; have HX5 := Lib.hid (below_step HX4.out.2 hb); clear hb)))
 go_ret
 exact ⟨rfl, HX5.out⟩
end Go.Proofs.YtcgdloldkcmhnaaGreat.H
end
section
namespace Go.Proofs.YtcgdloldkcmhnaaGreat.H
open Go Go.RowKit Go.Proofs.YtcgdloldkcmhnaaGreat.PrintC Go.Proofs.YtcgdloldkcmhnaaGreat.PrintE Go.Proofs.YtcgdloldkcmhnaaGreatW.PrintWords Go.Proofs.YtcgdloldkcmhnaaGreatW.PrintLast Go.Proofs.YtcgdloldkcmhnaaGreatW.PrintMore Go.Proofs.YtcgdloldkcmhnaaGreat.Flow
theorem max2_max (k k' : IntKind) (x y : Int) : Builtin.max2 (.int k x) (.int k' y) = pure (.int k (max x y)) := by
 rw [max2_int]
 have e : (if x < y then y else x) = max x y := by split <;> omega
 rw [e]
attribute [local go_sem] max2_max max_two
set_option linter.unusedVariables false
set_option linter.unusedSimpArgs false
def stockK (l : List Arc) (p : List Grp) (m : List Mv) (v z : Int) : Int := max (gOf v p) 0 + stockV l m v z
def BadP (kb : Bool) (h po cr k z : Int) : Prop := k < 0 ∨ (0 ≤ cr ∧ cr < k) ∨ (0 < k ∧ kb = false) ∨ (z = h ∧ 0 < k ∧ cr < 0 ∧ po < 0)
theorem chk_cases (kb : Bool) (h po cr k z : Int) (hk : 0 ≤ cr → kb = true) :
  (((k < 0 ∧ Hid (BadP kb h po cr k z)) ∨ (¬ k < 0 ∧ 0 ≤ cr ∧ cr < k ∧ Hid (BadP kb h po cr k z)) ∨ (¬ k < 0 ∧ ¬ 0 ≤ cr ∧ 0 < k ∧ kb = false ∧ Hid (BadP kb h po cr k z)) ∨ (¬ k < 0 ∧ ¬ 0 ≤ cr ∧ cr < 0 ∧ 0 < k ∧ kb = true ∧ (z == h) = true ∧ po < 0 ∧ Hid (BadP kb h po cr k z)))) ∨
  (Hid (¬ BadP kb h po cr k z) ∧ ((¬ k < 0 ∧ 0 ≤ cr ∧ ¬ cr < 0 ∧ ¬ cr < k ∧ ¬ 0 < k ∧ (z == h) = false ∧ Hid (¬ z = h)) ∨ (¬ k < 0 ∧ 0 ≤ cr ∧ ¬ cr < 0 ∧ ¬ cr < k ∧ ¬ 0 < k ∧ (z == h) = true ∧ Hid (z = h)) ∨ (¬ k < 0 ∧ 0 ≤ cr ∧ ¬ cr < 0 ∧ ¬ cr < k ∧ 0 < k ∧ kb = true ∧ (z == h) = false ∧ Hid (¬ z = h)) ∨ (¬ k < 0 ∧ 0 ≤ cr ∧ ¬ cr < 0 ∧ ¬ cr < k ∧ 0 < k ∧ kb = true ∧ (z == h) = true ∧ Hid (z = h)) ∨
   (¬ k < 0 ∧ ¬ 0 ≤ cr ∧ cr < 0 ∧ ¬ 0 < k ∧ (z == h) = false ∧ Hid (¬ z = h)) ∨ (¬ k < 0 ∧ ¬ 0 ≤ cr ∧ cr < 0 ∧ ¬ 0 < k ∧ (z == h) = true ∧ Hid (z = h)) ∨ (¬ k < 0 ∧ ¬ 0 ≤ cr ∧ cr < 0 ∧ 0 < k ∧ kb = true ∧ (z == h) = false ∧ Hid (¬ z = h)) ∨ (¬ k < 0 ∧ ¬ 0 ≤ cr ∧ cr < 0 ∧ 0 < k ∧ kb = true ∧ (z == h) = true ∧ ¬ po < 0 ∧ Hid (z = h)))) := by
 have ez : (z == h) = decide (z = h) := by
  by_cases e : z = h
  ·rw [decide_eq_true e]; exact beq_iff_eq.2 e
  ·rw [decide_eq_false e]; exact beq_eq_false_iff_ne.2 e
 rw [ez]
 by_cases a : k < 0
 ·exact .inl (.inl ⟨a, Lib.hid (.inl a)⟩)
 ·by_cases b : 0 ≤ cr
  ·have hkb := hk b
   by_cases c : cr < k
   ·exact .inl (.inr (.inl ⟨a, b, c, Lib.hid (.inr (.inl ⟨b, c⟩))⟩))
   ·refine .inr ⟨Lib.hid (by unfold BadP; rw [hkb]; simp only [Bool.true_eq_false, and_false, false_or]; omega), ?_⟩
    by_cases d : 0 < k
    ·by_cases e : z = h
     ·exact .inr (.inr (.inr (.inl ⟨a, b, by omega, c, d, hkb, decide_eq_true e, Lib.hid e⟩)))
     ·exact .inr (.inr (.inl ⟨a, b, by omega, c, d, hkb, decide_eq_false e, Lib.hid e⟩))
    ·by_cases e : z = h
     ·exact .inr (.inl ⟨a, b, by omega, c, d, decide_eq_true e, Lib.hid e⟩)
     ·exact .inl ⟨a, b, by omega, c, d, decide_eq_false e, Lib.hid e⟩
  ·by_cases d : 0 < k
   ·cases hkb : kb with
    |false => exact .inl (.inr (.inr (.inl ⟨a, b, d, rfl, Lib.hid (.inr (.inr (.inl ⟨d, rfl⟩)))⟩)))
    |true =>
     by_cases e : z = h
     ·by_cases f : po < 0
      ·exact .inl (.inr (.inr (.inr ⟨a, b, by omega, d, rfl, decide_eq_true e, f, Lib.hid (.inr (.inr (.inr ⟨e, d, by omega, f⟩)))⟩)))
      ·exact .inr ⟨Lib.hid (by unfold BadP; simp only [Bool.true_eq_false, and_false, false_or]; omega), .inr (.inr (.inr (.inr (.inr (.inr (.inr ⟨a, b, by omega, d, rfl, decide_eq_true e, f, Lib.hid e⟩))))))⟩
     ·exact .inr ⟨Lib.hid (by unfold BadP; simp only [Bool.true_eq_false, and_false, false_or]; omega), .inr (.inr (.inr (.inr (.inr (.inr (.inl ⟨a, b, by omega, d, rfl, decide_eq_false e, Lib.hid e⟩))))))⟩
   ·refine .inr ⟨Lib.hid (by unfold BadP; omega), ?_⟩
    by_cases e : z = h
    ·exact .inr (.inr (.inr (.inr (.inr (.inl ⟨a, b, by omega, d, decide_eq_true e, Lib.hid e⟩)))))
    ·exact .inr (.inr (.inr (.inr (.inl ⟨a, b, by omega, d, decide_eq_false e, Lib.hid e⟩))))
def BadAt (h : Nat) (b : Bool) (l : List Arc) (p q : List Grp) (m : List Mv) (v z : Nat) : Prop := BadP (keepsOf b p q v) h (gOf v p) (gOf v q) (stockK l p m v z) z
def PlanOk (n h : Nat) (b : Bool) (l : List Arc) (p q : List Grp) (L m : List Mv) : Prop := MgOf L m ∧ (∀ x, x ∈ m → mok l h q x = true) ∧ ∀ v z : Nat, v < n → z ≤ h → ¬ BadAt h b l p q m v z
def amtF (h : Nat) (l : List Arc) (p q : List Grp) (m : List Mv) (v : Nat) : Int := if 0 ≤ gOf v q then stockK l p m v h else 0
def planV (n h : Nat) (l : List Arc) (p q : List Grp) (m : List Mv) : Int := sumN n (amtF h l p q m)
def ChkAt (n h : Nat) (b : Bool) (l : List Arc) (p q : List Grp) (L : List Mv) (w : World) (e : Ending) (w' : World) : Prop := Below w.heap.size w w' ∧
 ((∃ k : Int, (k == 0) = false ∧ (k != 0) = true ∧ e = .returned (.tuple #[.int .i64 0, .int .i64 k]) ∧ (MvBad l h q L k ∨ (k = 141 ∧ ∃ m, MgOf L m ∧ (∀ x, x ∈ m → mok l h q x = true) ∧ ∃ v z : Nat, v < n ∧ z ≤ h ∧ BadAt h b l p q m v z))) ∨
  ∃ m, PlanOk n h b l p q L m ∧ e = .returned (.tuple #[.int .i64 (planV n h l p q m), .int .i64 0]))
theorem gOf_le {v M : Int} (hM : -1 ≤ M) : ∀ {l : List Grp}, (∀ g, g ∈ l → g.f1 ≤ M) → gOf v l ≤ M
 |[], _ => hM
 |g :: l, h => by
  unfold gOf
  split
  ·exact h g (List.mem_cons_self ..)
  ·exact gOf_le hM (fun x hx => h x (List.mem_cons_of_mem _ hx))
theorem mok_in {l : List Arc} {h : Nat} {q : List Grp} {x : Mv} (hh : h ≤ 1024) (hc : ∀ i : Nat, i < l.length → 0 ≤ (arcAt l i).f2 ∧ (arcAt l i).f2 ≤ 1048576) (k : mok l h q x = true) : MvIn l x := by
 unfold mok at k
 have e := of_decide_eq_true (Bool.and_eq_true_iff.1 k).1
 have h2 : x.f2 ≤ 1048576 := by
  have h3 := (hc x.f0.toNat (by omega)).2
  have h4 : arcAt l x.f0.toNat = arcOf l x := by
   unfold arcAt arcOf
   rw [Int.toNat_of_nonneg e.1]
  rw [h4] at h3
  have := e.2.2.2.2.2.2.1
  omega
 exact ⟨e.1, e.2.1, e.2.2.1, by omega, e.2.2.2.2.2.1, by omega⟩
set_option maxHeartbeats 8000000 in
set_option maxRecDepth 100000 in
theorem rplan_at (n h : Nat) (b : Bool) (A : Option Addr) (c : Nat) (l : List Arc) (Ap : Option Addr) (cp : Nat) (p : List Grp) (Aq : Option Addr) (cq : Nat) (q : List Grp) (AL : Option Addr) (cL : Nat) (L : List Mv) (w : World) (a : AskOk n h l p q) (hAS : ∀ W, Below w.heap.size w W → Calls Tryz.prog 14 #[.agg #[.int .i64 n, .bool b, .slice A l.length c], .slice Ap p.length cp, .slice Aq q.length cq, .int .i64 h] W fun e w' => e = .returned (.int .i64 0) ∧ Below W.heap.size W w') (hr : Kd.C kArc w A l.length l) (hp : Kd.C kGrp w Ap p.length p) (hq : Kd.C kGrp w Aq q.length q) (hL : Kd.C kMv w AL L.length L)
  (hi : ∀ x, x ∈ L → -9223372036854775808 ≤ x.f2 ∧ x.f2 ≤ 9223372036854775807) (hl : L.length ≤ 100000) :
  Calls Tryz.prog 11 #[.agg #[.int .i64 n, .bool b, .slice A l.length c], .slice Ap p.length cp, .slice Aq q.length cq, .int .i64 h, .slice AL L.length cL] w (ChkAt n h b l p q L w) := by
 have hu := Tryz.underlying33
 have HAS := Lib.hid hAS
 have HR := Lib.hid hr
 have HP := Lib.hid hp
 have HQ := Lib.hid hq
 have HLL := Lib.hid hL
 have HI := Lib.hid hi
 have HPL := Lib.hid a.place
 have hhb := a.hh
 have hn1 := a.place.net.n1
 have hlp := a.place.lp
 have hlq := a.place.lq
 have HTI : Hid (∀ i : Int, 0 ≤ i → i < l.length → 0 ≤ (rd_T104 l i).f3 ∧ (rd_T104 l i).f3 ≤ 1048576) := Lib.hid (fun i h0 h1 => by
  have h2 := a.place.net.time i.toNat (by omega)
  unfold arcAt at h2
  rw [Int.toNat_of_nonneg h0] at h2
  exact h2)
 have HG0 : Hid ((∀ g, g ∈ p → 0 ≤ g.f1) ∧ (∀ g, g ∈ q → 0 ≤ g.f1)) := Lib.hid ⟨fun g hg => (a.place.gp g hg).2.1, fun g hg => (a.place.gq g hg).2.1⟩
 clear a hAS hr hp hq hL hi
 go_enter Tryz.func11, Tryz.ntmps11
 obtain ⟨w1, hw1⟩ : ∃ w1, w1 = w.alloc (.cells #[.int .i64 n, .bool b, .slice A l.length c] 33) := ⟨_, rfl⟩
 have HX : Hid (w1.heap[w.heap.size]? = some (.cells #[.int .i64 n, .bool b, .slice A l.length c] 33 (0, 0)) ∧ Below w.heap.size w w1) := Lib.hid (by rw [hw1]; exact ⟨heap_alloc_new _ _, below_alloc (Below.refl _ _) _⟩)
 go_wp2_with (first
  |(go_at_call 14; rw [← hw1]; go_loud ((with_reducible refine (HAS.out _ ?s1).mono ?_); (case s1 => exact HX.out.2); rintro e w2 ⟨rfl, hb⟩; have HX2 := Lib.hid (And.intro (blk_below HX.out.1 hb) (below_step HX.out.2 hb)); have x0 : w2.cell? ⟨w.heap.size, 0, none⟩ = some (.int .i64 n) := (blk_cell HX2.out.1 0).trans rfl; have x1 : w2.cell? ⟨w.heap.size, 1, none⟩ = some (.bool b) := (blk_cell HX2.out.1 1).trans rfl; have x2 : w2.cell? ⟨w.heap.size, 2, none⟩ = some (.slice A l.length c) := (blk_cell HX2.out.1 2).trans rfl; clear hb))
  |(go_at_call 28; go_loud ((with_reducible refine (rmvs_walk _ b A c l Aq cq q _ AL cL L _ ?s1 ?s2 ?s3 ?s4 ?s5 ?s6 ?s7 ?s8 ?s9).mono ?_); (case s1 => exact Kd.C_below HR.out HX2.out.2); (case s2 => exact Kd.C_below HQ.out HX2.out.2); (case s3 => exact Kd.C_below HLL.out HX2.out.2); (case s4 => omega); (case s5 => exact HTI.out); (case s6 => omega); (case s7 => omega); (case s8 => exact HI.out); (case s9 => exact hl); rintro e w3 ⟨hb, (⟨k9, k0, k1, rfl, hbad⟩ | ⟨m, A1, c1, rfl, hm, hmg, hok, hml⟩)⟩; all_goals (have HX3 := Lib.hid (And.intro (blk_below HX2.out.1 hb) (below_step HX2.out.2 hb)); clear HX HX2 x0 x1 x2))))
 ·have HBAD := Lib.hid hbad
  clear hbad hb
  go_wp2
  go_ret2
  exact ⟨HX3.out.2, .inl ⟨k9, by simpa using k0, by simpa using k1, rfl, .inl HBAD.out⟩⟩
 have HM := Lib.hid (And.intro hmg hok)
 have HMC := Lib.hid (Kd.R_reads' hm).2.2
 have HMI : Hid (∀ x, x ∈ m → MvIn l x) := Lib.hid (fun x hx => mok_in hhb HPL.out.caps (hok x hx))
 have hmb := Nat.le_trans hml hl
 clear hm hmg hok hb
 go_wp2
 go_loopg [15, 16] (n + 1) (fun k sv vv W => ∃ (v : Nat) (S : Int), v ≤ n ∧ sv = .int .i64 S ∧ vv = .int .i64 v ∧ k = n + 1 - v ∧ 0 ≤ S ∧ S ≤ (v : Int) * 1048576 ∧ Hid (S = sumN v (amtF h l p q m) ∧ W.heap[w.heap.size]? = some (.cells #[.int .i64 n, .bool b, .slice A l.length c] 33 (0, 0)) ∧ Below w3.heap.size w3 W ∧ ∀ v' z : Nat, v' < v → z ≤ h → ¬ BadAt h b l p q m v' z))
 case atStart => exact ⟨0, 0, Nat.zero_le _, rfl, rfl, rfl, Int.le_refl _, by omega, Lib.hid ⟨rfl, HX3.out.1, Below.refl _ _, fun v' z hv => absurd hv (Nat.not_lt_zero _)⟩⟩
 case round =>
  obtain ⟨v, S, hv, rfl, rfl, rfl, s0, s1, HL⟩ := hrel
  have HB := Lib.hid (And.intro HL.out.2.1 (And.intro HL.out.2.2.1 (below_step HX3.out.2 HL.out.2.2.1)))
  have x0 : wr.cell? ⟨w.heap.size, 0, none⟩ = some (.int .i64 n) := (blk_cell HB.out.1 0).trans rfl; have x1 : wr.cell? ⟨w.heap.size, 1, none⟩ = some (.bool b) := (blk_cell HB.out.1 1).trans rfl; have x2 : wr.cell? ⟨w.heap.size, 2, none⟩ = some (.slice A l.length c) := (blk_cell HB.out.1 2).trans rfl
  by_cases hlt : v < n
  ·have hlt2 : (v : Int) < (n : Int) := by omega
   obtain ⟨po, hpo⟩ : ∃ po, po = gOf v p := ⟨_, rfl⟩
   obtain ⟨cr, hcr⟩ : ∃ cr, cr = gOf v q := ⟨_, rfl⟩
   obtain ⟨kb, hkb⟩ : ∃ kb, kb = keepsOf b p q v := ⟨_, rfl⟩
   obtain ⟨B, hB⟩ : ∃ B, max po 0 = B := ⟨_, rfl⟩
   have po1 : po ≤ 1048576 := by rw [hpo]; exact gOf_le (by decide) (fun g hg => (HPL.out.gp g hg).2.2)
   have cr1 : cr ≤ 1048576 := by rw [hcr]; exact gOf_le (by decide) (fun g hg => (HPL.out.gq g hg).2.2)
   have b0 : 0 ≤ B := by omega
   have b1 : B ≤ 1048576 := by omega
   have HKC : Hid (0 ≤ cr → kb = true) := Lib.hid (fun h9 => by
    have h8 := gOf_neg (v : Int) HG0.out.2
    rw [hkb]
    unfold keepsOf
    cases h7 : hasK (putGs q) (v : Int) with
    |true => simp
    |false =>
     rw [h7] at h8
     have := h8.2 rfl
     omega)
   have HPO := Lib.hid hpo
   have HCR := Lib.hid hcr
   have HKB := Lib.hid hkb
   have HBE := Lib.hid hB
   clear hpo hcr hkb
   go_wp2_with (first
    |(go_at_call 24; (with_reducible refine (rof_walk p.length Ap cp p _ _ ?s1 ?s2 ?s3).mono ?_); (case s1 => rfl); (case s2 => exact Kd.C_below HP.out HB.out.2.2); (case s3 => omega); rintro e w7 ⟨rfl, hb⟩; rw [← HPO.out]; have HN9 := Lib.hid (And.intro (blk_below HB.out.1 hb) (And.intro (below_step HB.out.2.1 hb) (below_step HB.out.2.2 hb))); clear HB x0 x1 x2 hb; have HB := HN9; clear HN9; have x0 : w7.cell? ⟨w.heap.size, 0, none⟩ = some (.int .i64 n) := (blk_cell HB.out.1 0).trans rfl; have x1 : w7.cell? ⟨w.heap.size, 1, none⟩ = some (.bool b) := (blk_cell HB.out.1 1).trans rfl; have x2 : w7.cell? ⟨w.heap.size, 2, none⟩ = some (.slice A l.length c) := (blk_cell HB.out.1 2).trans rfl)
    |(go_at_call 24; (with_reducible refine (rof_walk q.length Aq cq q _ _ ?s1 ?s2 ?s3).mono ?_); (case s1 => rfl); (case s2 => exact Kd.C_below HQ.out HB.out.2.2); (case s3 => omega); rintro e w8 ⟨rfl, hb⟩; rw [← HCR.out]; have HN9 := Lib.hid (And.intro (blk_below HB.out.1 hb) (And.intro (below_step HB.out.2.1 hb) (below_step HB.out.2.2 hb))); clear HB x0 x1 x2 hb; have HB := HN9; clear HN9; have x0 : w8.cell? ⟨w.heap.size, 0, none⟩ = some (.int .i64 n) := (blk_cell HB.out.1 0).trans rfl; have x1 : w8.cell? ⟨w.heap.size, 1, none⟩ = some (.bool b) := (blk_cell HB.out.1 1).trans rfl; have x2 : w8.cell? ⟨w.heap.size, 2, none⟩ = some (.slice A l.length c) := (blk_cell HB.out.1 2).trans rfl))
   clear hB
   have HL9 := Lib.hid (And.intro HL.out.1 HL.out.2.2.2)
   clear HL
   go_loopg [15, 19] (h + 2) (fun k sv zv W => ∃ (z : Nat) (s : Int), z ≤ h + 1 ∧ sv = .int .i64 s ∧ zv = .int .i64 z ∧ k = h + 2 - z ∧ 0 ≤ s ∧ s ≤ (v : Int) * 1048576 + 1048576 ∧ (z ≤ h → s ≤ (v : Int) * 1048576) ∧ Hid ((z ≤ h → s = S) ∧ (z = h + 1 → s = S + amtF h l p q m v) ∧ W.heap[w.heap.size]? = some (.cells #[.int .i64 n, .bool b, .slice A l.length c] 33 (0, 0)) ∧ Below w3.heap.size w3 W ∧ ∀ z' : Nat, z' < z → ¬ BadAt h b l p q m v z'))
   case atStart => exact ⟨0, S, by omega, rfl, rfl, rfl, s0, by omega, fun _ => s1, Lib.hid ⟨fun _ => rfl, fun h9 => by omega, HB.out.1, HB.out.2.1, fun z' hz => absurd hz (Nat.not_lt_zero _)⟩⟩
   case round =>
    obtain ⟨z, s, hz, rfl, rfl, rfl, t0, t1, t2, HZ⟩ := hrel
    clear HB x0 x1 x2
    have HB := Lib.hid (And.intro HZ.out.2.2.1 (And.intro HZ.out.2.2.2.1 (below_step HX3.out.2 HZ.out.2.2.2.1)))
    have x0 : wr.cell? ⟨w.heap.size, 0, none⟩ = some (.int .i64 n) := (blk_cell HB.out.1 0).trans rfl; have x1 : wr.cell? ⟨w.heap.size, 1, none⟩ = some (.bool b) := (blk_cell HB.out.1 1).trans rfl; have x2 : wr.cell? ⟨w.heap.size, 2, none⟩ = some (.slice A l.length c) := (blk_cell HB.out.1 2).trans rfl
    by_cases hzl : z ≤ h
    ·have hzl2 : (z : Int) ≤ (h : Int) := by omega
     have t3 := t2 hzl
     have t4 : s ≤ 1048576000 := by omega
     obtain ⟨KS, hKS⟩ : ∃ KS, KS = stockV l m v z := ⟨_, rfl⟩
     have hkbd := stock_bd (v := v) (z := z) HMI.out
     rw [← hKS] at hkbd
     obtain ⟨K, hK⟩ : ∃ K, K = B + KS := ⟨_, rfl⟩
     have e5 : IntKind.i64.wrap (B + KS) = K := by rw [IntWalk.i64_in _ (by omega), hK]
     have e6 : IntKind.i64.wrap (s + K) = s + K := IntWalk.i64_in _ (by omega)
     have HK : Hid (stockK l p m v z = K) := Lib.hid (by unfold stockK; rw [← HPO.out, HBE.out, ← hKS, hK])
     have HAM : Hid ((z : Int) = h → amtF h l p q m v = if 0 ≤ cr then K else 0) := Lib.hid (fun h9 => by
      unfold amtF
      rw [← HCR.out, ← h9, HK.out])
     have HKS := Lib.hid hKS
     clear hKS hK hkbd t2
     rcases chk_cases kb h po cr K z HKC.out with hbad | ⟨HNB, hgood⟩
     ·have HBD : Hid (BadP kb h po cr K z) := by
       rcases hbad with ⟨_, h9⟩ | ⟨_, _, _, h9⟩ | ⟨_, _, _, _, h9⟩ | ⟨_, _, _, _, _, _, _, h9⟩ <;> exact h9
      rcases hbad with ⟨g1, -⟩ | ⟨g1, g2, g3, -⟩ | ⟨g1, g2, g3, g4, -⟩ | ⟨g1, g2, g3, g4, g5, g6, g7, -⟩
      all_goals
       as_aux_lemma =>
        go_wp2_with (first
         |(go_at_call 29; go_loud ((with_reducible refine (rstock_walk n b A c l A1 c1 m v z KS HKS.out _ ?s1 ?s2 ?s3 ?s4 ?s5).mono ?_); (case s1 => exact Kd.C_below HR.out HB.out.2.2); (case s2 => exact Kd.C_below HMC.out HB.out.2.1); (case s3 => exact HMI.out); (case s4 => exact HTI.out); (case s5 => omega); rintro e w5 ⟨rfl, hb⟩; have HN9 := Lib.hid (And.intro (blk_below HB.out.1 hb) (And.intro (below_step HB.out.2.1 hb) (below_step HB.out.2.2 hb))); clear HB x0 x1 x2 hb; have HB := HN9; clear HN9; have x0 : w5.cell? ⟨w.heap.size, 0, none⟩ = some (.int .i64 n) := (blk_cell HB.out.1 0).trans rfl; have x1 : w5.cell? ⟨w.heap.size, 1, none⟩ = some (.bool b) := (blk_cell HB.out.1 1).trans rfl; have x2 : w5.cell? ⟨w.heap.size, 2, none⟩ = some (.slice A l.length c) := (blk_cell HB.out.1 2).trans rfl))
         |(go_at_call 30; go_loud ((with_reducible refine (rkeeps_walk n b (.slice A l.length c) Ap cp p Aq cq q v _ ?s1 ?s2 ?s3 ?s4 ?s5 ?s6).mono ?_); (case s1 => exact Kd.C_below HP.out HB.out.2.2); (case s2 => exact Kd.C_below HQ.out HB.out.2.2); (case s3 => omega); (case s4 => omega); (case s5 => exact HG0.out.1); (case s6 => exact HG0.out.2); rintro e w6 ⟨rfl, hb⟩; rw [show (b || (hasK (putGs p) (v : Int) || hasK (putGs q) (v : Int))) = kb from HKB.out.symm]; have HN9 := Lib.hid (And.intro (blk_below HB.out.1 hb) (And.intro (below_step HB.out.2.1 hb) (below_step HB.out.2.2 hb))); clear HB x0 x1 x2 hb; have HB := HN9; clear HN9; have x0 : w6.cell? ⟨w.heap.size, 0, none⟩ = some (.int .i64 n) := (blk_cell HB.out.1 0).trans rfl; have x1 : w6.cell? ⟨w.heap.size, 1, none⟩ = some (.bool b) := (blk_cell HB.out.1 1).trans rfl; have x2 : w6.cell? ⟨w.heap.size, 2, none⟩ = some (.slice A l.length c) := (blk_cell HB.out.1 2).trans rfl))
         |(go_at_call 24; (with_reducible refine (rof_walk p.length Ap cp p _ _ ?s1 ?s2 ?s3).mono ?_); (case s1 => rfl); (case s2 => exact Kd.C_below HP.out HB.out.2.2); (case s3 => omega); rintro e w7 ⟨rfl, hb⟩; rw [← HPO.out]; have HN9 := Lib.hid (And.intro (blk_below HB.out.1 hb) (And.intro (below_step HB.out.2.1 hb) (below_step HB.out.2.2 hb))); clear HB x0 x1 x2 hb; have HB := HN9; clear HN9; have x0 : w7.cell? ⟨w.heap.size, 0, none⟩ = some (.int .i64 n) := (blk_cell HB.out.1 0).trans rfl; have x1 : w7.cell? ⟨w.heap.size, 1, none⟩ = some (.bool b) := (blk_cell HB.out.1 1).trans rfl; have x2 : w7.cell? ⟨w.heap.size, 2, none⟩ = some (.slice A l.length c) := (blk_cell HB.out.1 2).trans rfl))
        go_ret2
        exact ⟨HB.out.2.2, .inl ⟨141, rfl, rfl, rfl, .inr ⟨rfl, m, HM.out.1, HM.out.2, v, z, hlt, hzl, by unfold BadAt; rw [← HKB.out, ← HPO.out, ← HCR.out, HK.out]; exact HBD.out⟩⟩⟩
     ·rcases hgood with ⟨g1, g2, g3, g4, g5, g6, HZH⟩ | ⟨g1, g2, g3, g4, g5, g6, HZH⟩ | ⟨g1, g2, g3, g4, g5, g6, g7, HZH⟩ | ⟨g1, g2, g3, g4, g5, g6, g7, HZH⟩ | ⟨g1, g2, g3, g4, g5, HZH⟩ | ⟨g1, g2, g3, g4, g5, HZH⟩ | ⟨g1, g2, g3, g4, g5, g6, HZH⟩ | ⟨g1, g2, g3, g4, g5, g6, g7, HZH⟩
      all_goals
       as_aux_lemma =>
        go_wp2_with (first
         |(go_at_call 29; go_loud ((with_reducible refine (rstock_walk n b A c l A1 c1 m v z KS HKS.out _ ?s1 ?s2 ?s3 ?s4 ?s5).mono ?_); (case s1 => exact Kd.C_below HR.out HB.out.2.2); (case s2 => exact Kd.C_below HMC.out HB.out.2.1); (case s3 => exact HMI.out); (case s4 => exact HTI.out); (case s5 => omega); rintro e w5 ⟨rfl, hb⟩; have HN9 := Lib.hid (And.intro (blk_below HB.out.1 hb) (And.intro (below_step HB.out.2.1 hb) (below_step HB.out.2.2 hb))); clear HB x0 x1 x2 hb; have HB := HN9; clear HN9; have x0 : w5.cell? ⟨w.heap.size, 0, none⟩ = some (.int .i64 n) := (blk_cell HB.out.1 0).trans rfl; have x1 : w5.cell? ⟨w.heap.size, 1, none⟩ = some (.bool b) := (blk_cell HB.out.1 1).trans rfl; have x2 : w5.cell? ⟨w.heap.size, 2, none⟩ = some (.slice A l.length c) := (blk_cell HB.out.1 2).trans rfl))
         |(go_at_call 30; go_loud ((with_reducible refine (rkeeps_walk n b (.slice A l.length c) Ap cp p Aq cq q v _ ?s1 ?s2 ?s3 ?s4 ?s5 ?s6).mono ?_); (case s1 => exact Kd.C_below HP.out HB.out.2.2); (case s2 => exact Kd.C_below HQ.out HB.out.2.2); (case s3 => omega); (case s4 => omega); (case s5 => exact HG0.out.1); (case s6 => exact HG0.out.2); rintro e w6 ⟨rfl, hb⟩; rw [show (b || (hasK (putGs p) (v : Int) || hasK (putGs q) (v : Int))) = kb from HKB.out.symm]; have HN9 := Lib.hid (And.intro (blk_below HB.out.1 hb) (And.intro (below_step HB.out.2.1 hb) (below_step HB.out.2.2 hb))); clear HB x0 x1 x2 hb; have HB := HN9; clear HN9; have x0 : w6.cell? ⟨w.heap.size, 0, none⟩ = some (.int .i64 n) := (blk_cell HB.out.1 0).trans rfl; have x1 : w6.cell? ⟨w.heap.size, 1, none⟩ = some (.bool b) := (blk_cell HB.out.1 1).trans rfl; have x2 : w6.cell? ⟨w.heap.size, 2, none⟩ = some (.slice A l.length c) := (blk_cell HB.out.1 2).trans rfl))
         |(go_at_call 24; (with_reducible refine (rof_walk p.length Ap cp p _ _ ?s1 ?s2 ?s3).mono ?_); (case s1 => rfl); (case s2 => exact Kd.C_below HP.out HB.out.2.2); (case s3 => omega); rintro e w7 ⟨rfl, hb⟩; rw [← HPO.out]; have HN9 := Lib.hid (And.intro (blk_below HB.out.1 hb) (And.intro (below_step HB.out.2.1 hb) (below_step HB.out.2.2 hb))); clear HB x0 x1 x2 hb; have HB := HN9; clear HN9; have x0 : w7.cell? ⟨w.heap.size, 0, none⟩ = some (.int .i64 n) := (blk_cell HB.out.1 0).trans rfl; have x1 : w7.cell? ⟨w.heap.size, 1, none⟩ = some (.bool b) := (blk_cell HB.out.1 1).trans rfl; have x2 : w7.cell? ⟨w.heap.size, 2, none⟩ = some (.slice A l.length c) := (blk_cell HB.out.1 2).trans rfl))
        go_roundg (h + 1 - z)
        case measure => omega
        case rel =>
         have hzz := HZH.out
         refine ⟨z + 1, _, by omega, rfl, by go_num, by omega, by omega, by omega, fun _ => by omega, Lib.hid ⟨fun h9 => by have h8 := HZ.out.1 hzl; omega, fun h9 => ?_, HB.out.1, HB.out.2.1, fun z' hz' => ?_⟩⟩
         ·have h8 := HZ.out.1 hzl
          have h7 := HAM.out (by omega)
          first
           |(rw [if_pos (by omega)] at h7; omega)
           |(rw [if_neg (by omega)] at h7; omega)
         ·rcases Nat.lt_or_eq_of_le (Nat.le_of_lt_succ hz') with h9 | rfl
          ·exact HZ.out.2.2.2.2 z' h9
          ·unfold BadAt
           rw [← HKB.out, ← HPO.out, ← HCR.out, HK.out]
           exact HNB.out
    ·have hzl2 : ¬ (z : Int) ≤ (h : Int) := by omega
     have ez : z = h + 1 := by omega
     go_wp2
     go_roundg (n - v)
     case measure => omega
     case rel =>
      refine ⟨v + 1, s, by omega, rfl, by go_num, by omega, t0, by omega, Lib.hid ⟨?_, HB.out.1, HB.out.2.1, fun v' z' hv' hz' => ?_⟩⟩
      ·rw [sumN, ← HL9.out.1]
       exact HZ.out.2.1 ez
      ·rcases Nat.lt_or_eq_of_le (Nat.le_of_lt_succ hv') with h9 | rfl
       ·exact HL9.out.2 v' z' h9 hz'
       ·exact HZ.out.2.2.2.2 z' (by omega)
  ·have e : v = n := by omega
   subst e
   go_wp2
   go_ret2
   refine ⟨HB.out.2.2, .inr ⟨m, ⟨HM.out.1, HM.out.2, fun v' z' hv' hz' => HL.out.2.2.2 v' z' hv' hz'⟩, ?_⟩⟩
   unfold planV
   rw [← HL.out.1]
   rfl
theorem rplan_walk (n h : Nat) (b : Bool) (A : Option Addr) (c : Nat) (l : List Arc) (Ap : Option Addr) (cp : Nat) (p : List Grp) (Aq : Option Addr) (cq : Nat) (q : List Grp) (AL : Option Addr) (cL : Nat) (L : List Mv) (w : World) (a : AskOk n h l p q) (hr : Kd.C kArc w A l.length l) (hp : Kd.C kGrp w Ap p.length p) (hq : Kd.C kGrp w Aq q.length q) (hL : Kd.C kMv w AL L.length L)
  (hi : ∀ x, x ∈ L → -9223372036854775808 ≤ x.f2 ∧ x.f2 ≤ 9223372036854775807) (hl : L.length ≤ 100000) :
  Calls Tryz.prog 11 #[.agg #[.int .i64 n, .bool b, .slice A l.length c], .slice Ap p.length cp, .slice Aq q.length cq, .int .i64 h, .slice AL L.length cL] w (ChkAt n h b l p q L w) :=
 rplan_at n h b A c l Ap cp p Aq cq q AL cL L w a (fun W hW => rasked_walk n h b A c l Ap cp p Aq cq q W a (Kd.C_below hr hW) (Kd.C_below hp hW) (Kd.C_below hq hW)) hr hp hq hL hi hl
end Go.Proofs.YtcgdloldkcmhnaaGreat.H
end
section
namespace Go.Proofs.YtcgdloldkcmhnaaGreat.H
open Go Go.RowKit Go.Proofs.YtcgdloldkcmhnaaGreat.PrintC Go.Proofs.YtcgdloldkcmhnaaGreat.PrintE Go.Proofs.YtcgdloldkcmhnaaGreatW.PrintWords Go.Proofs.YtcgdloldkcmhnaaGreat.Flow
set_option linter.unusedVariables false
theorem sumN_head (g : Nat → Int) (k : Nat) : sumN (k + 1) g = g 0 + sumN k (fun i => g (i + 1)) := by
 rw [Nat.add_comm k 1, sumN_split]
 show (0 + g 0) + sumN k (fun i => g (1 + i)) = _
 rw [sumN_congr k (h := fun i => g (i + 1)) (fun i _ => by rw [Nat.add_comm 1 i])]
 omega
def gpAt (p : List Grp) (i : Nat) : Grp := rd_T59 p (i : Int)
theorem gpAt_get {p : List Grp} {i : Nat} (h : i < p.length) : gpAt p i = p[i] := by
 unfold gpAt rd_T59
 rw [Int.toNat_natCast, List.getD_eq_getElem?_getD, List.getElem?_eq_getElem h]
 rfl
theorem gpAt_mem {p : List Grp} {i : Nat} (h : i < p.length) : gpAt p i ∈ p := by
 rw [gpAt_get h]
 exact List.getElem_mem h
theorem gpAt_succ (g : Grp) (p : List Grp) (i : Nat) : gpAt (g :: p) (i + 1) = gpAt p i := by
 unfold gpAt rd_T59
 rw [Int.toNat_natCast, Int.toNat_natCast]
 rfl
def grpF (p : List Grp) (y : Nat → Int) (v : Int) : Int := sumN p.length (fun i => if (gpAt p i).f0 = v then y i else 0)
theorem grpF_none {y : Nat → Int} {v : Int} {p : List Grp} (h : ∀ g, g ∈ p → g.f0 ≠ v) : grpF p y v = 0 := sumN_zero _ (fun i hi => if_neg (h _ (gpAt_mem hi)))
theorem gOf_out {v : Int} : ∀ {p : List Grp}, (∀ g, g ∈ p → g.f0 ≠ v) → gOf v p = -1
 |[], _ => rfl
 |x :: p, h => by
  unfold gOf
  rw [if_neg (h x (List.mem_cons_self ..))]
  exact gOf_out (fun g hg => h g (List.mem_cons_of_mem _ hg))
theorem grpF_bd {v : Int} : ∀ {p : List Grp} {y : Nat → Int}, (p.map fun g => g.f0).Nodup → (∀ i, i < p.length → 0 ≤ y i ∧ y i ≤ (gpAt p i).f1) → 0 ≤ grpF p y v ∧ grpF p y v ≤ max (gOf v p) 0
 |[], y, _, _ => by
  show (0 : Int) ≤ 0 ∧ (0 : Int) ≤ max (-1) 0
  omega
 |g :: p, y, hd, hy => by
  obtain ⟨d1, d2⟩ := List.nodup_cons.1 hd
  have ih := grpF_bd (v := v) (p := p) (y := fun i => y (i + 1)) d2 (fun i hi => by
   have := hy (i + 1) (by rw [List.length_cons]; omega)
   rw [gpAt_succ] at this
   exact this)
  have e : grpF (g :: p) y v = (if g.f0 = v then y 0 else 0) + grpF p (fun i => y (i + 1)) v := by
   unfold grpF
   rw [List.length_cons, sumN_head]
   congr 1
  have h0 := hy 0 (by rw [List.length_cons]; omega)
  have h1 : (gpAt (g :: p) 0) = g := rfl
  rw [h1] at h0
  rw [e]
  unfold gOf
  by_cases c : g.f0 = v
  ·rw [if_pos c, if_pos c, grpF_none (p := p) (fun x hx e2 => d1 (List.mem_map.2 ⟨x, hx, e2.trans c.symm⟩))]
   omega
  ·rw [if_neg c, if_neg c]
   omega
theorem grpF_all {n : Nat} {q : List Grp} (hq : GrpsIn n q) (y : Nat → Int) : sumN n (fun v => grpF q y v) = sumN q.length y := by
 unfold grpF
 rw [sumN_swap]
 refine sumN_congr _ (fun i hi => ?_)
 have h := hq _ (gpAt_mem hi)
 have := sumN_one n (gpAt q i).f0 (fun _ => true) (y i) h.1.1 h.1.2
 simpa using this
theorem arcAt_pArcs {N : Nat} {p : List Grp} {i : Nat} (h : i < p.length) : arcAt (pArcs N p) i = ⟨(N : Int), (gpAt p i).f0, (gpAt p i).f1, 0⟩ := by
 unfold pArcs arcAt rd_T104
 rw [Int.toNat_natCast, List.getD_eq_getElem?_getD, List.getElem?_map, List.getElem?_eq_getElem h, gpAt_get h]
 rfl
theorem arcAt_qArcs {N1 n h : Nat} {q : List Grp} {i : Nat} (hi : i < q.length) : arcAt (qArcs N1 n h q) i = ⟨(h : Int) * n + (gpAt q i).f0, (N1 : Int), (gpAt q i).f1, 0⟩ := by
 unfold qArcs arcAt rd_T104
 rw [Int.toNat_natCast, List.getD_eq_getElem?_getD, List.getElem?_map, List.getElem?_eq_getElem hi, gpAt_get hi]
 rfl
theorem arcAt_right (a b : List Arc) (i : Nat) : arcAt (a ++ b) (a.length + i) = arcAt b i := by
 unfold arcAt rd_T104
 rw [Int.toNat_natCast, Int.toNat_natCast, List.getD_eq_getElem?_getD, List.getD_eq_getElem?_getD, List.getElem?_append_right (by omega), Nat.add_sub_cancel_left]
theorem waitF_zero {wt : List Ent} {f : Nat → Int} {v z : Int} (h : ∀ x, x ∈ wt → ¬ (x.1 = v ∧ x.2.1 = z)) : waitF wt f v z = 0 := sumE_zero (fun x hx => if_neg (h x hx))
theorem waitF_pos {wt : List Ent} {f : Nat → Int} {v z : Int} (h : ∀ x, x ∈ wt → 0 ≤ f x.2.2.toNat) : 0 ≤ waitF wt f v z := sumE_nonneg (fun x hx => by
 split
 ·exact h x hx
 ·exact Int.le_refl 0)
theorem MgOf.eq {L a b : List Mv} (ha : MgOf L a) (hb : MgOf L b) : a = b := by
 have key : ∀ {a b : List Mv}, MgOf L a → MgOf L b → ∀ y, y ∈ a → y ∈ b := fun {a b} ha hb y hy => by
  obtain ⟨h1, h2, x, hx, h3⟩ := ha.am y hy
  obtain ⟨-, h4⟩ := hb.all x hx
  rw [← amt_same (sameK_sym h3)] at h4
  obtain ⟨w, hw, h5⟩ := h4 (by rw [← h1]; exact h2)
  obtain ⟨h6, -, -⟩ := hb.am w hw
  have h7 := sameK_trans (sameK_sym h3) h5
  rw [← amt_same h7, ← h1] at h6
  obtain ⟨e0, e1⟩ := sameK_iff.1 h7
  have : y = w := by
   cases y
   cases w
   simp only at e0 e1 h6
   rw [e0, e1, h6]
  rw [this]
  exact hw
 have nd : ∀ {a : List Mv}, MgOf L a → a.Nodup := fun {a} h => h.srt.imp (fun {x y} hxy e => by rw [e] at hxy; unfold mlt at hxy; omega)
 have hp : a.Perm b := (List.perm_ext_iff_of_nodup (nd ha) (nd hb)).2 (fun y => ⟨key ha hb y, key hb ha y⟩)
 exact hp.eq_of_pairwise (fun x y _ _ h1 h2 => by unfold mlt at h1 h2; omega) ha.srt hb.srt
theorem MgOf.self {L m : List Mv} (h : MgOf L m) : MgOf m m := by
 have hd : m.Pairwise (fun a b => sameK a b = false) := h.srt.imp (fun {x y} hxy => by
  cases c : sameK x y with
  |false => rfl
  |true =>
   obtain ⟨e0, e1⟩ := sameK_iff.1 c
   unfold mlt at hxy
   omega)
 refine ⟨h.srt, fun y hy => ?_, fun x hx => ?_⟩
 ·obtain ⟨-, h2, -⟩ := h.am y hy
  exact ⟨(amt_single hd hy).symm, h2, y, by rw [List.take_length]; exact hy, sameK_refl y⟩
 ·rw [List.take_length] at hx
  obtain ⟨h1, h2, z, hz, h3⟩ := h.am x hx
  rw [amt_single hd hx]
  refine ⟨?_, fun _ => ⟨x, hx, sameK_refl x⟩⟩
  have := (h.all z hz).1
  rw [amt_same h3, ← h1] at this
  exact this
section
variable {n h : Nat} {b : Bool} {l : List Arc} {p q : List Grp} {F : List Int} {S : Int → Bool} {m : List Mv}
abbrev evB (n h : Nat) (b : Bool) (l : List Arc) (p q : List Grp) : BSt := bA l (useOf q) (keepsOf b p q) n h (h + 1)
abbrev evA (n h : Nat) (b : Bool) (l : List Arc) (p q : List Grp) : List Arc := evArcs l (useOf q) (keepsOf b p q) n h ((h + 1) * n) ((h + 1) * n + 1) p q
theorem evB_ok (n h : Nat) (b : Bool) (l : List Arc) (p q : List Grp) : BOk l (useOf q) (keepsOf b p q) n h (evB n h b l p q) := (bA_is (h + 1)).1
theorem evA_len (n h : Nat) (b : Bool) (l : List Arc) (p q : List Grp) : (evA n h b l p q).length = (evB n h b l p q).arcs.length + p.length + q.length := by
 show (evArcs l (useOf q) (keepsOf b p q) n h ((h + 1) * n) ((h + 1) * n + 1) p q).length = _
 unfold evArcs pArcs qArcs
 rw [List.length_append, List.length_append, List.length_map, List.length_map]
theorem ev_net (a : AskOk n h l p q) (b : Bool) : NetOk ((h + 1) * n + 2) (evA n h b l p q) := (a.place.netOk b).1
theorem ev_ends (a : AskOk n h l p q) (b : Bool) : Flow.Ends (evA n h b l p q).length (frOf (evA n h b l p q)) (toOf (evA n h b l p q)) ((h + 1) * n + 2) := fun i hi => (ev_net a b).ends (i : Int) (by omega) (by omega)
theorem evEnt (a : AskOk n h l p q) (b : Bool) : EntOk (evB n h b l p q).mv ∧ (evB n h b l p q).mv.length ≤ 100000 := by
 have hb := evB_ok n h b l p q
 have hle : (evB n h b l p q).le ((h + 1) * (l.length + n)) := bA_le l (useOf q) (keepsOf b p q) n h (h + 1)
 have h1 := a.hn
 have h2 := a.hl
 rw [Nat.mul_add] at hle
 refine ⟨⟨hb.apart, fun x hx => ?_⟩, by have := hle.2.1; omega⟩
 obtain ⟨j, t, k, rfl, q1, q2, -, q4, -⟩ := hb.mv x hx
 have h3 := (a.place.net.time j q1).1
 have h4 := a.hh
 have h5 := hle.1
 have h6 : l.length ≤ (h + 1) * l.length := Nat.le_mul_of_pos_left _ (Nat.succ_pos h)
 simp only
 omega
theorem evF_in (a : AskOk n h l p q) (hF : FlowOk (evA n h b l p q) F) : ∀ x, x ∈ (evB n h b l p q).mv → x.2.2 < F.length := fun x hx => by
 obtain ⟨j, t, k, rfl, -, -, -, q4, -⟩ := (evB_ok n h b l p q).mv x hx
 have h1 := hF.len
 rw [evA_len] at h1
 show (k : Int) < F.length
 omega
theorem evF_bd (a : AskOk n h l p q) (hF : FlowOk (evA n h b l p q) F) : ∀ x, x ∈ F → x ≤ 9223372036854775807 := fun x hx => by
 obtain ⟨i, hi, rfl⟩ := List.getElem_of_mem hx
 have h0 := hF.len
 have h1 := hF.wit (i : Int) (by omega) (by omega)
 have h2 := (ev_net a b).caps (i : Int) (by omega) (by omega)
 have e : rd F (i : Int) = F[i] := by
  unfold rd
  rw [Int.toNat_natCast, List.getD_eq_getElem?_getD, List.getElem?_eq_getElem hi]
  rfl
 rw [e] at h1
 exact Int.le_trans h1.2 (Int.le_trans h2 (by decide))
theorem evStock (a : AskOk n h l p q) (hF : FlowOk (evA n h b l p q) F) (hB : Bal (evA n h b l p q).length (frOf (evA n h b l p q)) (toOf (evA n h b l p q)) ((h + 1) * n + 2) ((h + 1) * n : Nat) (((h + 1) * n : Nat) + 1) (dOf F)) {v z : Int} (hv : 0 ≤ v ∧ v < n) (hz : 0 ≤ z ∧ z ≤ h) :
  stockF l (evB n h b l p q).mv (dOf F) v z = waitF (evB n h b l p q).wt (dOf F) v z - grpF p (fun i => dOf F ((evB n h b l p q).arcs.length + i)) v + (if z = h then grpF q (fun i => dOf F ((evB n h b l p q).arcs.length + p.length + i)) v else 0) := by
 have hb := evB_ok n h b l p q
 have hpl := a.place
 have hn0 := hpl.net.n0
 have eA : evA n h b l p q = (evB n h b l p q).arcs ++ (pArcs ((h + 1) * n) p ++ qArcs ((h + 1) * n + 1) n h q) := by
  unfold evA evArcs
  rw [List.append_assoc]
 have he := ev_ends a b
 rw [eA] at he hB
 rw [stock_is hb hpl.net.ends hn0 he hB hv hz.2]
 have e1 : sumN (pArcs ((h + 1) * n) p ++ qArcs ((h + 1) * n + 1) n h q).length (fun i => dsA (upS n v z) (arcAt (pArcs ((h + 1) * n) p ++ qArcs ((h + 1) * n + 1) n h q) i) (dOf F ((evB n h b l p q).arcs.length + i))) = - grpF p (fun i => dOf F ((evB n h b l p q).arcs.length + i)) v + (if z = h then grpF q (fun i => dOf F ((evB n h b l p q).arcs.length + p.length + i)) v else 0) := by
  have lp : (pArcs ((h + 1) * n) p).length = p.length := List.length_map ..
  have lq : (qArcs ((h + 1) * n + 1) n h q).length = q.length := List.length_map ..
  rw [List.length_append, sumN_split, lp, lq]
  congr 1
  ·unfold grpF
   have : ∀ (k : Nat) (g : Nat → Int), - sumN k g = sumN k (fun i => - g i) := fun k g => by
    have h1 := sumN_sub k (fun _ => 0) g
    have h2 := sumN_zero k (g := fun _ => 0) (fun _ _ => rfl)
    rw [h2] at h1
    have h3 := sumN_congr k (g := fun i => - g i) (h := fun i => 0 - g i) (fun i _ => by omega)
    omega
   rw [this]
   refine sumN_congr _ (fun i hi => ?_)
   rw [arcAt_append (by rw [lp]; exact hi), arcAt_pArcs hi]
   unfold dsA
   simp only
   have g1 := hpl.gp _ (gpAt_mem hi)
   have e0 := upS_end (n := n) (h := h) (v := v) hn0 hz.2 0 (Int.le_refl 0)
   rw [Int.add_zero] at e0
   have e2 := upS_at (n := n) (v := v) (z := z) (a := 0) g1.1.1 g1.1.2
   rw [Int.zero_mul, Int.zero_add] at e2
   rw [e0, e2, if_neg (by decide)]
   by_cases c : (gpAt p i).f0 = v
   ·rw [if_pos (decide_eq_true ⟨c, hz.1⟩), if_pos c]
    omega
   ·rw [if_neg (by rw [decide_eq_true_eq]; exact fun e => c e.1), if_neg c]
    omega
  ·have ez : ∀ (k : Nat) (g : Nat → Int), (if z = h then sumN k g else 0) = sumN k (fun i => if z = h then g i else 0) := fun k g => by
    split
    ·rfl
    ·exact (sumN_zero k (fun _ _ => rfl)).symm
   unfold grpF
   rw [ez]
   refine sumN_congr _ (fun i hi => ?_)
   have e8 := arcAt_right (pArcs ((h + 1) * n) p) (qArcs ((h + 1) * n + 1) n h q) i
   rw [lp] at e8
   show dsA (upS n v z) (arcAt (pArcs ((h + 1) * n) p ++ qArcs ((h + 1) * n + 1) n h q) (p.length + i)) (dOf F ((evB n h b l p q).arcs.length + (p.length + i))) = if z = (h : Int) then (if (gpAt q i).f0 = v then dOf F ((evB n h b l p q).arcs.length + p.length + i) else 0) else 0
   rw [e8, arcAt_qArcs hi, Nat.add_assoc]
   unfold dsA
   simp only
   have g1 := hpl.gq _ (gpAt_mem hi)
   have e0 := upS_end (n := n) (h := h) (v := v) hn0 hz.2 1 (by decide)
   rw [show ((((h + 1) * n : Nat) : Int) + 1) = (((h + 1) * n + 1 : Nat) : Int) by omega] at e0
   rw [e0, upS_at g1.1.1 g1.1.2, if_neg (show ¬ (false = true) by decide)]
   by_cases c : (gpAt q i).f0 = v
   ·by_cases d : z = h
    ·rw [if_pos (decide_eq_true ⟨c, by omega⟩), if_pos d, if_pos c]
     omega
    ·rw [if_neg (by rw [decide_eq_true_eq]; omega), if_neg d]
     omega
   ·rw [if_neg (by rw [decide_eq_true_eq]; exact fun e => c e.1)]
    rw [if_neg c]
    split <;> omega
 rw [e1]
 omega
theorem evK (a : AskOk n h l p q) (hF : FlowOk (evA n h b l p q) F) (hB : Bal (evA n h b l p q).length (frOf (evA n h b l p q)) (toOf (evA n h b l p q)) ((h + 1) * n + 2) ((h + 1) * n : Nat) (((h + 1) * n : Nat) + 1) (dOf F)) (hm : MgOf (toldL F (evB n h b l p q).mv) m) {v z : Nat} (hv : v < n) (hz : z ≤ h) :
  ∃ P W Q : Int, stockK l p m v z = max (gOf v p) 0 - P + W + (if z = h then Q else 0) ∧ (0 ≤ P ∧ P ≤ max (gOf v p) 0) ∧ 0 ≤ W ∧ (0 ≤ Q ∧ Q ≤ max (gOf v q) 0) ∧ (z = h → W = 0) ∧ (keepsOf b p q v = false → W = 0) ∧ Q = grpF q (fun i => dOf F ((evB n h b l p q).arcs.length + p.length + i)) v := by
 have hb := evB_ok n h b l p q
 obtain ⟨he, hlm⟩ := evEnt a b
 have hp := told_perm he (evF_bd a hF) hm
 have hfl : ∀ k : Nat, k < (evA n h b l p q).length → 0 ≤ dOf F k := fun k hk => (hF.wit (k : Int) (by omega) (by omega)).1
 have hlA := evA_len n h b l p q
 have e1 : stockV l m v z = stockF l (evB n h b l p q).mv (dOf F) v z := by
  rw [stockV_perm hp, stockV_told]
  intro x hx
  obtain ⟨j, t, k, rfl, q1, q2, q3, q4, q5⟩ := hb.mv x hx
  exact ⟨Int.natCast_nonneg k, (hF.wit (k : Int) (by omega) (by omega)).1⟩
 have e2 := evStock a hF hB (v := (v : Int)) (z := (z : Int)) ⟨by omega, by omega⟩ ⟨by omega, by omega⟩
 have hpI : ∀ i, i < p.length → 0 ≤ dOf F ((evB n h b l p q).arcs.length + i) ∧ dOf F ((evB n h b l p q).arcs.length + i) ≤ (gpAt p i).f1 := fun i hi => by
  refine ⟨hfl _ (by omega), ?_⟩
  have h1 := (hF.wit (((evB n h b l p q).arcs.length + i : Nat) : Int) (by omega) (by omega)).2
  have h2 : rd_T104 (evA n h b l p q) (((evB n h b l p q).arcs.length + i : Nat) : Int) = arcAt (evA n h b l p q) ((evB n h b l p q).arcs.length + i) := rfl
  rw [h2] at h1
  have h3 : arcAt (evA n h b l p q) ((evB n h b l p q).arcs.length + i) = ⟨(((h + 1) * n : Nat) : Int), (gpAt p i).f0, (gpAt p i).f1, 0⟩ := by
   unfold evA evArcs
   rw [List.append_assoc, arcAt_right, arcAt_append (by unfold pArcs; rw [List.length_map]; exact hi), arcAt_pArcs hi]
  rw [h3] at h1
  exact h1
 have hqI : ∀ i, i < q.length → 0 ≤ dOf F ((evB n h b l p q).arcs.length + p.length + i) ∧ dOf F ((evB n h b l p q).arcs.length + p.length + i) ≤ (gpAt q i).f1 := fun i hi => by
  refine ⟨hfl _ (by omega), ?_⟩
  have h1 := (hF.wit (((evB n h b l p q).arcs.length + p.length + i : Nat) : Int) (by omega) (by omega)).2
  have h2 : rd_T104 (evA n h b l p q) (((evB n h b l p q).arcs.length + p.length + i : Nat) : Int) = arcAt (evA n h b l p q) ((evB n h b l p q).arcs.length + p.length + i) := rfl
  rw [h2] at h1
  have h3 : arcAt (evA n h b l p q) ((evB n h b l p q).arcs.length + p.length + i) = ⟨(h : Int) * n + (gpAt q i).f0, (((h + 1) * n + 1 : Nat) : Int), (gpAt q i).f1, 0⟩ := by
   have h4 := arcAt_right ((evB n h b l p q).arcs ++ pArcs ((h + 1) * n) p) (qArcs ((h + 1) * n + 1) n h q) i
   rw [List.length_append, show (pArcs ((h + 1) * n) p).length = p.length from List.length_map ..] at h4
   unfold evA evArcs
   rw [h4, arcAt_qArcs hi]
  rw [h3] at h1
  exact h1
 have w0 : 0 ≤ waitF (evB n h b l p q).wt (dOf F) v z := waitF_pos (fun x hx => by
  obtain ⟨u, t, k, rfl, q1, q2, q3, q4, q5⟩ := hb.wt x hx
  simp only [Int.toNat_natCast]
  exact hfl k (by omega))
 refine ⟨_, _, _, ?_, grpF_bd a.grp.dp hpI, w0, grpF_bd a.grp.dq hqI, fun ez => waitF_zero (fun x hx => ?_), fun ek => waitF_zero (fun x hx => ?_), rfl⟩
 ·unfold stockK
  rw [e1, e2]
  by_cases c : z = h
  ·rw [if_pos c, if_pos (by omega)]
   omega
  ·rw [if_neg c, if_neg (by omega)]
   omega
 ·obtain ⟨u, t, k, rfl, q1, q2, q3, q4, q5⟩ := hb.wt x hx
  simp only
  omega
 ·obtain ⟨u, t, k, rfl, q1, q2, q3, q4, q5⟩ := hb.wt x hx
  simp only
  rintro ⟨e3, -⟩
  have : u = v := by omega
  rw [this, ek] at q3
  cases q3
theorem evMok (a : AskOk n h l p q) (hF : FlowOk (evA n h b l p q) F) (hm : MgOf (toldL F (evB n h b l p q).mv) m) : ∀ x, x ∈ m → mok l h q x = true := fun x hx => by
 have hb := evB_ok n h b l p q
 obtain ⟨he, hlm⟩ := evEnt a b
 have hx2 := (told_perm he (evF_bd a hF) hm).mem_iff.1 hx
 obtain ⟨h1, -, y, hy, rfl⟩ := told_f2 (evF_bd a hF) hx2
 obtain ⟨j, t, k, rfl, q1, q2, q3, q4, q5⟩ := hb.mv y hy
 have hk : k < (evA n h b l p q).length := by
  rw [evA_len]
  omega
 have h2 := (hF.wit (k : Int) (by omega) (by omega)).2
 have h3 : rd_T104 (evA n h b l p q) (k : Int) = arcAt (evA n h b l p q) k := rfl
 have h4 : arcAt (evA n h b l p q) k = arcAt (evB n h b l p q).arcs k := by
  unfold evA evArcs
  rw [List.append_assoc, arcAt_append q4]
 rw [h3, h4, q5] at h2
 have g1 := a.net.arc j q1
 have ea : arcOf l (⟨(j : Int), (t : Int), rd F (k : Int)⟩ : Mv) = arcAt l j := rfl
 unfold mok moveOk
 rw [ea]
 simp only at h1 h2 ⊢
 rw [Bool.and_eq_true, decide_eq_true_eq, decide_eq_true_eq]
 refine ⟨⟨by omega, by omega, by omega, by omega, q2, by omega, h2, by omega, by omega⟩, ?_⟩
 rw [gOf_neg _ (fun g hg => (a.grp.gq g hg).2.1)]
 unfold useOf at q3
 simpa using q3
theorem evPlan (a : AskOk n h l p q) (hF : FlowOk (evA n h b l p q) F) (hB : Bal (evA n h b l p q).length (frOf (evA n h b l p q)) (toOf (evA n h b l p q)) ((h + 1) * n + 2) ((h + 1) * n : Nat) (((h + 1) * n : Nat) + 1) (dOf F)) (hm : MgOf (toldL F (evB n h b l p q).mv) m) : ∀ v z : Nat, v < n → z ≤ h → ¬ BadAt h b l p q m v z := fun v z hv hz => by
 obtain ⟨P, W, Q, e, hP, hW, hQ, w1, w2, eQ⟩ := evK a hF hB hm hv hz
 have gp0 : ∀ g, g ∈ p → 0 ≤ g.f1 := fun g hg => (a.grp.gp g hg).2.1
 have gq0 : ∀ g, g ∈ q → 0 ≤ g.f1 := fun g hg => (a.grp.gq g hg).2.1
 have hapart : 0 ≤ gOf v q → gOf v p = -1 := fun hc => by
  refine gOf_out (fun g hg e2 => ?_)
  have : ∃ y, y ∈ q ∧ y.f0 = (v : Int) := by
   cases Classical.em (∃ y, y ∈ q ∧ y.f0 = (v : Int)) with
   |inl h1 => exact h1
   |inr h1 =>
    have := gOf_out (v := (v : Int)) (p := q) (fun y hy e3 => h1 ⟨y, hy, e3⟩)
    omega
  obtain ⟨y, hy, e3⟩ := this
  exact a.grp.apart y hy g hg (by rw [e2, e3])
 have hk : keepsOf b p q v = false → gOf v p < 0 ∧ gOf v q < 0 := fun hf => by
  unfold keepsOf at hf
  rw [Bool.or_eq_false_iff, Bool.or_eq_false_iff] at hf
  exact ⟨(gOf_neg _ gp0).2 hf.2.1, (gOf_neg _ gq0).2 hf.2.2⟩
 unfold BadAt BadP
 rintro (h1 | ⟨h1, h2⟩ | ⟨h1, h2⟩ | ⟨h1, h2, h3, h4⟩)
 ·split at e <;> omega
 ·have h3 := hapart h1
  by_cases c : z = h
  ·have := w1 c
   rw [if_pos c] at e
   omega
  ·
   obtain ⟨P2, W2, Q2, e2, hP2, hW2, hQ2, v1, v2, eQ2⟩ := evK a hF hB hm hv (Nat.le_refl h)
   have h5 : W2 = 0 := v1 rfl
   rw [if_pos rfl] at e2
   have h6 : stockK l p m v z ≤ stockK l p m v h := by
    unfold stockK stockV
    have : sumL (m.map (stock1 l v z)) ≤ sumL (m.map (stock1 l v h)) := by
     have key : ∀ (m : List Mv), (∀ x, x ∈ m → stock1 l v z x ≤ stock1 l v h x) → sumL (m.map (stock1 l v z)) ≤ sumL (m.map (stock1 l v h)) := fun m => by
      induction m with
      |nil => exact fun _ => Int.le_refl 0
      |cons x m ih =>
       intro hh
       have i1 := hh x (List.mem_cons_self ..)
       have i2 := ih (fun y hy => hh y (List.mem_cons_of_mem _ hy))
       rw [List.map_cons, List.map_cons, sumL, sumL]
       omega
     refine key m (fun x hx => ?_)
     have hx2 := evMok a hF hm x hx
     unfold mok moveOk at hx2
     rw [Bool.and_eq_true, decide_eq_true_eq, decide_eq_true_eq] at hx2
     have hne : (arcOf l x).f0 ≠ (v : Int) := fun e3 => by
      have := hx2.2
      rw [e3] at this
      omega
     unfold stock1
     rw [if_neg (show ¬ ((arcOf l x).f0 = (v : Int) ∧ x.f1 ≤ (z : Int)) from fun e3 => hne e3.1), if_neg (show ¬ ((arcOf l x).f0 = (v : Int) ∧ x.f1 ≤ (h : Int)) from fun e3 => hne e3.1)]
     have := hx2.1
     by_cases c1 : (arcOf l x).f1 = (v : Int) ∧ x.f1 + (arcOf l x).f3 ≤ (z : Int)
     ·rw [if_pos c1, if_pos ⟨c1.1, by omega⟩]
      exact Int.le_refl _
     ·rw [if_neg c1]
      split <;> omega
    omega
   omega
 ·have h3 := hk h2
  have := w2 h2
  split at e <;> omega
 ·have := w1 (by omega)
  split at e <;> omega
theorem evValue (a : AskOk n h l p q) (hF : FlowOk (evA n h b l p q) F) (hB : Bal (evA n h b l p q).length (frOf (evA n h b l p q)) (toOf (evA n h b l p q)) ((h + 1) * n + 2) ((h + 1) * n : Nat) (((h + 1) * n : Nat) + 1) (dOf F)) :
  leaves (evA n h b l p q).length (frOf (evA n h b l p q)) (toOf (evA n h b l p q)) (dOf F) ((h + 1) * n : Nat) = sumN q.length (fun i => dOf F ((evB n h b l p q).arcs.length + p.length + i)) := by
 have hb := evB_ok n h b l p q
 have hpl := a.place
 have eA : evA n h b l p q = (evB n h b l p q).arcs ++ (pArcs ((h + 1) * n) p ++ qArcs ((h + 1) * n + 1) n h q) := by
  unfold evA evArcs
  rw [List.append_assoc]
 have he := ev_ends a b
 obtain ⟨T, hT⟩ : ∃ T : Int → Bool, T = fun u => !decide (u = (((h + 1) * n : Nat) : Int) + 1) := ⟨_, rfl⟩
 have hTs : ∀ u : Int, u < (((h + 1) * n : Nat) : Int) + 1 → T u = true := fun u hu => by
  rw [hT]
  simp only [Bool.not_eq_true', decide_eq_false_iff_not]
  omega
 have hTt : T ((((h + 1) * n : Nat) : Int) + 1) = false := by
  rw [hT]
  simp
 rw [value_cross he hB ⟨by omega, by omega⟩ (hTs _ (by omega)) hTt, cross_ds, eA, List.length_append, sumN_split, hb.sum]
 have z1 : sumL ((evB n h b l p q).mv.map fun x => dsA T (arcAt ((evB n h b l p q).arcs ++ (pArcs ((h + 1) * n) p ++ qArcs ((h + 1) * n + 1) n h q)) x.2.2.toNat) (dOf F x.2.2.toNat)) = 0 := sumE_zero (fun x hx => by
  obtain ⟨j, t, k, rfl, q1, q2, q3, q4, q5⟩ := hb.mv x hx
  simp only [Int.toNat_natCast]
  rw [arcAt_append q4, q5]
  obtain ⟨g1, g2⟩ := hpl.net.ends j q1
  have g3 := (hpl.net.time j q1).1
  have i1 := idx_lt (a := (t : Int)) (n := (n : Int)) (h := (h : Int)) (by omega) (by omega) g1.1 g1.2
  have i2 := idx_lt (a := (t : Int) + (arcAt l j).f3) (n := (n : Int)) (h := (h : Int)) (by omega) q2 g2.1 g2.2
  have e9 : (((h + 1) * n : Nat) : Int) = ((h : Int) + 1) * n := by rw [Int.natCast_mul, Int.natCast_add]; rfl
  unfold dsA
  simp only
  rw [hTs _ (by omega), hTs _ (by omega), if_pos rfl]
  omega)
 have z2 : sumL ((evB n h b l p q).wt.map fun x => dsA T (arcAt ((evB n h b l p q).arcs ++ (pArcs ((h + 1) * n) p ++ qArcs ((h + 1) * n + 1) n h q)) x.2.2.toNat) (dOf F x.2.2.toNat)) = 0 := sumE_zero (fun x hx => by
  obtain ⟨u, t, k, rfl, q1, q2, q3, q4, q5⟩ := hb.wt x hx
  simp only [Int.toNat_natCast]
  rw [arcAt_append q4, q5]
  have i1 := idx_lt (a := (t : Int)) (n := (n : Int)) (h := (h : Int)) (x := (u : Int)) (by omega) (by omega) (by omega) (by omega)
  have i2 := idx_lt (a := (t : Int) + 1) (n := (n : Int)) (h := (h : Int)) (x := (u : Int)) (by omega) (by omega) (by omega) (by omega)
  have e9 : (((h + 1) * n : Nat) : Int) = ((h : Int) + 1) * n := by rw [Int.natCast_mul, Int.natCast_add]; rfl
  unfold dsA
  simp only
  rw [hTs _ (by omega), hTs _ (by omega), if_pos rfl]
  omega)
 rw [z1, z2]
 have lp : (pArcs ((h + 1) * n) p).length = p.length := List.length_map ..
 have lq : (qArcs ((h + 1) * n + 1) n h q).length = q.length := List.length_map ..
 have e3 : sumN (pArcs ((h + 1) * n) p ++ qArcs ((h + 1) * n + 1) n h q).length (fun i => dsA T (arcAt ((evB n h b l p q).arcs ++ (pArcs ((h + 1) * n) p ++ qArcs ((h + 1) * n + 1) n h q)) ((evB n h b l p q).arcs.length + i)) (dOf F ((evB n h b l p q).arcs.length + i))) = sumN q.length (fun i => dOf F ((evB n h b l p q).arcs.length + p.length + i)) := by
  rw [List.length_append, sumN_split, lp, lq]
  have n1 : n ≤ (h + 1) * n := Nat.le_mul_of_pos_left _ (Nat.succ_pos h)
  have y1 : sumN p.length (fun i => dsA T (arcAt ((evB n h b l p q).arcs ++ (pArcs ((h + 1) * n) p ++ qArcs ((h + 1) * n + 1) n h q)) ((evB n h b l p q).arcs.length + i)) (dOf F ((evB n h b l p q).arcs.length + i))) = 0 := sumN_zero _ (fun i hi => by
   rw [arcAt_right, arcAt_append (by rw [lp]; exact hi), arcAt_pArcs hi]
   have g1 := hpl.gp _ (gpAt_mem hi)
   unfold dsA
   simp only
   rw [hTs _ (by omega), hTs _ (by omega), if_pos rfl]
   omega)
  rw [y1]
  have y2 : sumN q.length (fun i => dsA T (arcAt ((evB n h b l p q).arcs ++ (pArcs ((h + 1) * n) p ++ qArcs ((h + 1) * n + 1) n h q)) ((evB n h b l p q).arcs.length + (p.length + i))) (dOf F ((evB n h b l p q).arcs.length + (p.length + i)))) = sumN q.length (fun i => dOf F ((evB n h b l p q).arcs.length + p.length + i)) := sumN_congr _ (fun i hi => by
   have e8 := arcAt_right (pArcs ((h + 1) * n) p) (qArcs ((h + 1) * n + 1) n h q) i
   rw [lp] at e8
   rw [arcAt_right, e8, arcAt_qArcs hi, Nat.add_assoc]
   have g1 := hpl.gq _ (gpAt_mem hi)
   have i1 := idx_lt (a := (h : Int)) (n := (n : Int)) (h := (h : Int)) (by omega) (by omega) g1.1.1 g1.1.2
   have e9 : (((h + 1) * n : Nat) : Int) = ((h : Int) + 1) * n := by rw [Int.natCast_mul, Int.natCast_add]; rfl
   unfold dsA
   simp only
   rw [hTs _ (by omega), show ((((h + 1) * n + 1 : Nat) : Int)) = (((h + 1) * n : Nat) : Int) + 1 by omega, hTt, if_pos rfl, if_neg (by decide)]
   omega)
  rw [y2]
  omega
 rw [e3]
 omega
theorem evAmount (a : AskOk n h l p q) (hF : FlowOk (evA n h b l p q) F) (hB : Bal (evA n h b l p q).length (frOf (evA n h b l p q)) (toOf (evA n h b l p q)) ((h + 1) * n + 2) ((h + 1) * n : Nat) (((h + 1) * n : Nat) + 1) (dOf F)) (hm : MgOf (toldL F (evB n h b l p q).mv) m) :
  planV n h l p q m = leaves (evA n h b l p q).length (frOf (evA n h b l p q)) (toOf (evA n h b l p q)) (dOf F) ((h + 1) * n : Nat) := by
 rw [evValue a hF hB, ← grpF_all a.place.gq]
 unfold planV
 refine sumN_congr n (fun v hv => ?_)
 obtain ⟨P, W, Q, e, hP, hW, hQ, w1, w2, eQ⟩ := evK a hF hB hm hv (Nat.le_refl h)
 rw [← eQ]
 have h5 := w1 rfl
 rw [if_pos rfl] at e
 unfold amtF
 by_cases c : 0 ≤ gOf v q
 ·rw [if_pos c]
  have : gOf v p = -1 := by
   refine gOf_out (fun g hg e2 => ?_)
   have : ∃ y, y ∈ q ∧ y.f0 = (v : Int) := by
    cases Classical.em (∃ y, y ∈ q ∧ y.f0 = (v : Int)) with
    |inl h1 => exact h1
    |inr h1 =>
     have := gOf_out (v := (v : Int)) (p := q) (fun y hy e3 => h1 ⟨y, hy, e3⟩)
     omega
   obtain ⟨y, hy, e3⟩ := this
   exact a.grp.apart y hy g hg (by rw [e2, e3])
  omega
 ·rw [if_neg c]
  omega
end
end Go.Proofs.YtcgdloldkcmhnaaGreat.H
end
