/- What the reference's Text and Row compute, and that the program's are the same. -/
import Derived.Test.YtdjnnkfopgmpaaaDoorHPureNums
namespace Go.Proofs.YtdjnnkfopgmpaaaDoor.PureWord
open Go.RowKit Go.Proofs.YtdjnnkfopgmpaaaDoor.H Go.Proofs.YtdjnnkfopgmpaaaDoor.Print Go.Proofs.YtdjnnkfopgmpaaaDoorW.PrintWords Go.Proofs.YtdjnnkfopgmpaaaDoorW.PrintLast

def asNums (l : List UInt8) : List Int := l.map fun c => (c.toNat : Int)
/-- The digits still to come: none of 0. -/
def preD (u : Nat) : List UInt8 := if u = 0 then [] else Lib.decDigits u

theorem preD_step (u : Nat) (h : 0 < u) : preD u = preD (u / 10) ++ [UInt8.ofNat (48 + u % 10)] := by
  unfold preD
  rw [if_neg (by omega), Lib.decDigits]
  split
  · rename_i h1
    rw [if_pos (by omega), Nat.mod_eq_of_lt h1]
    rfl
  · rw [if_neg (by omega)]

theorem nat_len (u : Nat) : (preD u).length ≤ u := by
  induction u using Nat.strongRecOn with
  | _ u ih =>
    by_cases h : 0 < u
    · rw [preD_step u h, List.length_append, List.length_singleton]
      have := ih (u / 10) (by omega)
      omega
    · have : u = 0 := by omega
      subst this
      simp [preD]

theorem strOf_asNums (l : List UInt8) : strOfNums (asNums l) = mkB l := by
  unfold strOfNums asNums mkB
  congr 2
  rw [List.map_map]
  conv => rhs; rw [← List.map_id l]
  refine List.map_congr_left fun c _ => ?_
  simp

theorem back_go (xs : List Int) (hx : xs.length ≤ 1000) : ∀ (i : Nat) (out : List Int), i ≤ xs.length → out.length + i = xs.length →
    Ev (fun k => ebbtideref04_natural.l1 k xs out ((i : Int) - 1)) (strOfNums (out ++ (xs.take i).reverse))
  | 0, out, hi, ho => by
    refine Ev.step (f := fun _ => _) (fun k => ?_) (Ev.now _)
    simp only [ebbtideref04_natural.l1]
    rw [if_neg (by omega)]
    simp
  | i + 1, out, hi, ho => by
    have hlt : i < xs.length := by omega
    have hrd : rd xs (i : Int) = xs[i] := by simp [rd, hlt]
    have ih := back_go xs hx i (out ++ [xs[i]]) (by omega) (by simp; omega)
    have htk : (xs.take (i + 1)).reverse = xs[i] :: (xs.take i).reverse := by
      rw [List.take_succ_eq_append_getElem hlt, List.reverse_append]
      rfl
    rw [htk, ← List.singleton_append, ← List.append_assoc]
    refine Ev.step (f := fun k => ebbtideref04_natural.l1 k xs (out ++ [xs[i]]) ((i : Int) - 1)) (fun k => ?_) ih
    have e1 : ((i + 1 : Nat) : Int) - 1 = (i : Int) := by omega
    rw [e1]
    simp only [ebbtideref04_natural.l1]
    rw [if_pos (by omega), if_pos (by omega), if_pos (by omega), if_pos (by omega), hrd, wI (by omega) (by omega)]

theorem nat_go (u : Nat) : ∀ (back : List UInt8), u ≤ 9223372036854775807 → back.length + (preD u).length ≤ 1000 →
    Ev (fun k => ebbtideref04_natural.l0 k (u : Int) (asNums back.reverse)) (mkB (preD u ++ back)) := by
  induction u using Nat.strongRecOn with
  | _ u ih =>
    intro back hu hb
    by_cases h : 0 < u
    · have hd := preD_step u h
      have hlen : (preD u).length = (preD (u / 10)).length + 1 := by rw [hd]; simp
      have ih' := ih (u / 10) (by omega) (UInt8.ofNat (48 + u % 10) :: back) (by omega) (by simp; omega)
      have e1 : preD (u / 10) ++ UInt8.ofNat (48 + u % 10) :: back = preD u ++ back := by rw [hd]; simp
      rw [e1] at ih'
      refine Ev.step (f := fun k => ebbtideref04_natural.l0 k ((u / 10 : Nat) : Int) (asNums (UInt8.ofNat (48 + u % 10) :: back).reverse)) (fun k => ?_) ih'
      simp only [ebbtideref04_natural.l0]
      have ht : Int.tdiv (u : Int) 10 = ((u / 10 : Nat) : Int) := Int.ofNat_tdiv u 10
      have hm : Int.tmod (u : Int) 10 = ((u % 10 : Nat) : Int) := Int.ofNat_tmod u 10
      rw [if_pos (by omega), if_pos (by simp [asNums]; omega), ht, hm, wI (by omega) (by omega), wI (by omega) (by omega)]
      congr 1
      simp only [asNums, List.reverse_cons, List.map_append, List.map_cons, List.map_nil]
      congr 2
    · have h0 : u = 0 := by omega
      subst h0
      have hl : (asNums back.reverse).length = back.length := by simp [asNums]
      have hg := back_go (asNums back.reverse) (by rw [hl]; simp [preD] at hb; omega) back.length [] (by rw [hl]; exact Nat.le_refl _) (by rw [hl]; simp)
      have e1 : ([] ++ ((asNums back.reverse).take back.length).reverse) = asNums back := by
        rw [← hl, List.take_length, List.nil_append, asNums, ← List.map_reverse, List.reverse_reverse]
        rfl
      rw [e1, strOf_asNums] at hg
      have e2 : preD 0 ++ back = back := by simp [preD]
      rw [e2]
      refine Ev.step (f := fun k => ebbtideref04_natural.l1 k (asNums back.reverse) [] ((back.length : Int) - 1)) (fun k => ?_) hg
      simp only [ebbtideref04_natural.l0]
      simp [preD] at hb
      rw [if_neg (by omega), hl, wI (by omega) (by omega)]

theorem preD_dec (u : Nat) : preD (u / 10) ++ [UInt8.ofNat (48 + u % 10)] = Lib.decDigits u := by
  by_cases h : 0 < u
  · rw [← preD_step u h, preD, if_neg (by omega)]
  · have h0 : u = 0 := by omega
    subst h0
    simp [preD, Lib.decDigits]

theorem natural_ok (u : Nat) (hu : u ≤ 9223372036854775807) : Ev (fun k => ebbtideref04_natural.f k (u : Int)) (mkB (Lib.decDigits u)) := by
  have hl := decDigits_le 18 u (by omega)
  rw [← preD_dec u, List.length_append, List.length_singleton] at hl
  have h := nat_go (u / 10) [UInt8.ofNat (48 + u % 10)] (by omega) (by simp; omega)
  rw [preD_dec] at h
  refine Ev.congr (fun k => ?_) h
  have ht : Int.tdiv (u : Int) 10 = ((u / 10 : Nat) : Int) := Int.ofNat_tdiv u 10
  have hm : Int.tmod (u : Int) 10 = ((u % 10 : Nat) : Int) := Int.ofNat_tmod u 10
  simp only [ebbtideref04_natural.f]
  rw [if_pos (by simp), ht, hm, wI (by omega) (by omega), wI (by omega) (by omega)]
  congr 1

theorem mkB_append (a b : List UInt8) : mkB a ++ mkB b = mkB (a ++ b) := by
  rw [← mkB_of (mkB a ++ mkB b)]
  simp [mkB]
theorem mkB_size (a : List UInt8) : (mkB a).size = a.length := by simp [mkB, ByteArray.size]

theorem refText (n : Int) (hn : inRange n) : Ev (fun k => ebbtideref04_Text.f k n) (mkB (Lib.itoa n)) := by
  obtain ⟨h1, h2⟩ := hn
  by_cases h0 : 0 ≤ n
  · obtain ⟨u, rfl⟩ := Int.eq_ofNat_of_zero_le h0
    have hi : Lib.itoa (u : Int) = Lib.decDigits u := by unfold Lib.itoa; rw [if_neg (by omega)]; rfl
    rw [hi]
    refine Ev.congr (f := fun k => (ebbtideref04_natural.f k (u : Int)).bind fun t => some t) (fun k => ?_) (Ev.bind (natural_ok u (by omega)) (Ev.now _))
    simp only [ebbtideref04_Text.f]
    rw [if_pos (by omega)]
  · obtain ⟨u, hu⟩ : ∃ u : Nat, n = -(u : Int) := ⟨n.natAbs, by omega⟩
    have hu0 : 0 < u := by omega
    have hi : Lib.itoa n = 45 :: Lib.decDigits u := by
      unfold Lib.itoa
      rw [if_pos (by omega)]
      congr 2
      omega
    have ht : Int.tdiv n 10 = -((u / 10 : Nat) : Int) := by rw [hu, Int.neg_tdiv, Int.ofNat_tdiv]; rfl
    have hm : Int.tmod n 10 = -((u % 10 : Nat) : Int) := by rw [hu, Int.neg_tmod, Int.ofNat_tmod]; rfl
    have hh : wrap64 (-(wrap64 (Int.tdiv n 10))) = ((u / 10 : Nat) : Int) := by
      have a1 : wrap64 (Int.tdiv n 10) = -((u / 10 : Nat) : Int) := by rw [ht]; exact wI (by omega) (by omega)
      rw [a1, Int.neg_neg]
      exact wI (by omega) (by omega)
    have hl : wrap64 (-(Int.tmod n 10)) = ((u % 10 : Nat) : Int) := by
      rw [hm, Int.neg_neg]
      exact wI (by omega) (by omega)
    have hdl := decDigits_le 18 u (by omega)
    rw [hi]
    have e45 : (⟨#[45]⟩ : ByteArray) = mkB [45] := rfl
    by_cases hz : u < 10
    · have hd : Lib.decDigits u = Lib.decDigits (u % 10) := by rw [Nat.mod_eq_of_lt hz]
      have hb := Ev.bind (f := fun k t => if 1 + t.size ≤ 9223372036854775807 then some ((⟨#[45]⟩ : ByteArray) ++ t) else none) (natural_ok (u % 10) (by omega)) (r := mkB (45 :: Lib.decDigits u)) (by
        refine Ev.congr (fun k => ?_) (Ev.now _)
        rw [if_pos (by rw [mkB_size, ← hd]; omega), e45, mkB_append, ← hd]
        rfl)
      refine Ev.congr (fun k => ?_) hb
      simp only [ebbtideref04_Text.f]
      rw [if_neg (by omega), if_pos (by rw [hh]; omega), hl]
    · have hd : Lib.decDigits u = Lib.decDigits (u / 10) ++ Lib.decDigits (u % 10) := by
        conv => lhs; rw [Lib.decDigits]
        rw [dif_neg hz]
        congr 1
        rw [Lib.decDigits, dif_pos (by omega)]
      have hb := Ev.bind (f := fun k t158 => if 1 + t158.size ≤ 9223372036854775807 then ((ebbtideref04_natural.f k ((u % 10 : Nat) : Int)).bind fun t159 => (if ((⟨#[45]⟩ : ByteArray) ++ t158).size + t159.size ≤ 9223372036854775807 then (some (((⟨#[45]⟩ : ByteArray) ++ t158) ++ t159)) else (none))) else none) (natural_ok (u / 10) (by omega)) (r := mkB (45 :: Lib.decDigits u)) (by
        rw [hd] at hdl
        rw [List.length_append] at hdl
        refine Ev.congr (f := fun k => (ebbtideref04_natural.f k ((u % 10 : Nat) : Int)).bind fun t159 => (if ((⟨#[45]⟩ : ByteArray) ++ mkB (Lib.decDigits (u / 10))).size + t159.size ≤ 9223372036854775807 then (some (((⟨#[45]⟩ : ByteArray) ++ mkB (Lib.decDigits (u / 10))) ++ t159)) else (none))) (fun k => by rw [if_pos (by rw [mkB_size]; omega)]) ?_
        refine Ev.bind (natural_ok (u % 10) (by omega)) ?_
        refine Ev.congr (fun k => ?_) (Ev.now _)
        rw [e45, mkB_append, if_pos (by rw [mkB_size, mkB_size, List.length_append]; simp; omega), mkB_append, hd]
        rfl)
      refine Ev.congr (fun k => ?_) hb
      simp only [ebbtideref04_Text.f]
      rw [if_neg (by omega), if_neg (by rw [hh]; omega), hl, hh]

theorem refRow_go (w : List UInt8) (l : List Int) (hr : ∀ n ∈ l, inRange n) (hs : w.length + 21 * l.length + 1 ≤ 140737488355328) : ∀ (d i : Nat), i + d = l.length →
    Ev (fun k => ebbtideref04_Row.l0 k (mkB (rowHead w (l.take i))) l (i : Int)) (mkB (rowHead w l ++ [10]))
  | 0, i, hi => by
    have hb := rowHead_le w l hr
    have htk : l.take i = l := List.take_of_length_le (by omega)
    rw [htk]
    refine Ev.step (f := fun _ => _) (fun k => ?_) (Ev.now _)
    simp only [ebbtideref04_Row.l0]
    rw [if_neg (by omega), if_pos (by rw [mkB_size]; omega)]
    rw [← mkB_append]
    rfl
  | d + 1, i, hi => by
    have hlt : i < l.length := by omega
    have hrd : rd l (i : Int) = l[i] := by simp [rd, hlt]
    have hin := hr _ (List.getElem_mem hlt)
    have hit := itoa_le _ hin
    have hb := rowHead_le w (l.take i) (fun n hn => hr n (List.mem_of_mem_take hn))
    have hl1 : (l.take i).length ≤ i := List.length_take_le _ _
    have ih := refRow_go w l hr hs d (i + 1) (by omega)
    rw [rowHead_take w l i hlt] at ih
    have e32 : (⟨#[32]⟩ : ByteArray) = mkB [32] := rfl
    refine Ev.step (f := fun k => (ebbtideref04_Text.f k l[i]).bind fun t161 => (if (mkB (rowHead w (l.take i)) ++ (⟨#[32]⟩ : ByteArray)).size + t161.size ≤ 9223372036854775807 then (ebbtideref04_Row.l0 k ((mkB (rowHead w (l.take i)) ++ (⟨#[32]⟩ : ByteArray)) ++ t161) l ((i + 1 : Nat) : Int)) else (none))) (fun k => ?_) ?_
    · simp only [ebbtideref04_Row.l0]
      rw [if_pos (by omega), if_pos (by rw [mkB_size]; omega), if_pos (by omega), hrd, w1 i (by omega)]
    · refine Ev.bind (refText _ hin) ?_
      refine Ev.congr (fun k => ?_) ih
      rw [e32, mkB_append, mkB_append, if_pos (by rw [mkB_size, mkB_size, List.length_append]; simp; omega)]
      simp

theorem refRow (w : ByteArray) (l : List Int) (hr : ∀ n ∈ l, inRange n) (hs : w.size + 21 * l.length + 1 ≤ 140737488355328) : Ev (fun k => ebbtideref04_Row.f k w l) (rowB w l) := by
  have h := refRow_go w.data.toList l hr (by rw [size_len]; exact hs) l.length 0 (by omega)
  simp only [List.take_zero] at h
  have e0 : mkB (rowHead w.data.toList []) = w := by simp [rowHead, mkB]
  rw [e0] at h
  exact h
end Go.Proofs.YtdjnnkfopgmpaaaDoor.PureWord
