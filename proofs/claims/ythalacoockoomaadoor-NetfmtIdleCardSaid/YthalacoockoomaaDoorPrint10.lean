-- Written by a program of this session (wip/tools/xp.py over the kit's print); not trusted: Lean checks it.
import Derived.Test.YthalacoockoomaaDoorPrint0
import Derived.Test.YthalacoockoomaaDoorPrint6
namespace Go.Proofs.YthalacoockoomaaDoor.Print
open Go.RowKit Go.Proofs.YthalacoockoomaaDoor.H Go.Proofs.YthalacoockoomaaDoorW.PrintWords Go.Proofs.YthalacoockoomaaDoorW.PrintLast Go.Proofs.YthalacoockoomaaDoorW.PrintMore
attribute [local go_sem] max2_int min2_int max_two min_two max_three min_three max_four min_four   -- for this text's walks alone
set_option linter.unusedVariables false
set_option linter.unusedSimpArgs false

/-! ### ebbtidelaw05_spread: function 18 -/
mutual
def ebbtidelaw05_spread.l0 : Nat → List ByteArray → ByteArray → Int → Option (ByteArray)
  | 0, _, _, _ => none
  | k + 1, x3, x4, x5 => if x5 < (x3.length : Int) then (if x4.size + 2 ≤ 9223372036854775807 then (if 0 ≤ x5 then (if (x4 ++ (⟨#[35, 32]⟩ : ByteArray)).size + (rdOf ByteArray.empty x3 x5).size ≤ 9223372036854775807 then (if ((x4 ++ (⟨#[35, 32]⟩ : ByteArray)) ++ (rdOf ByteArray.empty x3 x5)).size + 4 ≤ 9223372036854775807 then (ebbtidelaw05_spread.l1 k x3 (((x4 ++ (⟨#[35, 32]⟩ : ByteArray)) ++ (rdOf ByteArray.empty x3 x5)) ++ (⟨#[10, 32, 10, 32]⟩ : ByteArray)) x5 0) else (none)) else (none)) else (none)) else (none)) else (some x4)
def ebbtidelaw05_spread.l1 : Nat → List ByteArray → ByteArray → Int → Int → Option (ByteArray)
  | 0, _, _, _, _ => none
  | k + 1, x3, x4, x5, x6 => if 0 ≤ x5 then (if x5 < (x3.length : Int) then (if x6 < ((rdOf ByteArray.empty x3 x5).size : Int) then (if 0 ≤ x6 then (if x6 ≤ (wrap64 (x6 + 1)) then (if (wrap64 (x6 + 1)) ≤ ((rdOf ByteArray.empty x3 x5).size : Int) then (if x4.size + ((rdOf ByteArray.empty x3 x5).extract (x6 : Int).toNat ((wrap64 (x6 + 1)) : Int).toNat).size ≤ 9223372036854775807 then (if (bt (rdOf ByteArray.empty x3 x5) x6) = 32 then (if (x4 ++ ((rdOf ByteArray.empty x3 x5).extract (x6 : Int).toNat ((wrap64 (x6 + 1)) : Int).toNat)).size + 2 ≤ 9223372036854775807 then (ebbtidelaw05_spread.l1 k x3 ((x4 ++ ((rdOf ByteArray.empty x3 x5).extract (x6 : Int).toNat ((wrap64 (x6 + 1)) : Int).toNat)) ++ (⟨#[32, 32]⟩ : ByteArray)) x5 (wrap64 (x6 + 1))) else (none)) else (ebbtidelaw05_spread.l1 k x3 (x4 ++ ((rdOf ByteArray.empty x3 x5).extract (x6 : Int).toNat ((wrap64 (x6 + 1)) : Int).toNat)) x5 (wrap64 (x6 + 1)))) else (none)) else (none)) else (none)) else (none)) else (if x4.size + 2 ≤ 9223372036854775807 then (ebbtidelaw05_spread.l0 k x3 (x4 ++ (⟨#[32, 10]⟩ : ByteArray)) (wrap64 (x5 + 1))) else (none))) else (none)) else (none)
end
def ebbtidelaw05_spread.f (k : Nat) (a0 : ByteArray) : Option (ByteArray) := (ebbtideref04_Lines.f k a0).bind fun t249 => (ebbtidelaw05_spread.l0 k t249 (⟨#[]⟩ : ByteArray) 0)
theorem ebbtidelaw05_spread.mono_l : ∀ k, (∀ y0 y1 y2, LeO (ebbtidelaw05_spread.l0 k y0 y1 y2) (ebbtidelaw05_spread.l0 (k + 1) y0 y1 y2)) ∧ (∀ y0 y1 y2 y3, LeO (ebbtidelaw05_spread.l1 k y0 y1 y2 y3) (ebbtidelaw05_spread.l1 (k + 1) y0 y1 y2 y3))
  | 0 => ⟨fun _ _ _ r h => by simp [ebbtidelaw05_spread.l0] at h, fun _ _ _ _ r h => by simp [ebbtidelaw05_spread.l1] at h⟩
  | k + 1 => by
    obtain ⟨ih0, ih1⟩ := ebbtidelaw05_spread.mono_l k
    refine ⟨?_, ?_⟩
    · intro y0 y1 y2
      unfold ebbtidelaw05_spread.l0
      repeat' first
      | (with_reducible exact ih0 _ _ _)
      | (with_reducible exact ih1 _ _ _ _)
      | (with_reducible exact ebbtideref04_Lines.mono _ _)
      | (with_reducible exact LeO.refl _)
      | (with_reducible exact LeO.none _)
      | (with_reducible refine LeO.ite ?_ ?_)
      | (with_reducible refine LeO.bind ?_ (fun _ => ?_))
      | exact ih0 _ _ _
      | exact ih1 _ _ _ _
      | exact ebbtideref04_Lines.mono _ _
      | exact LeO.none _
      | refine LeO.ite ?_ ?_
      | refine LeO.bind ?_ (fun _ => ?_)
    · intro y0 y1 y2 y3
      unfold ebbtidelaw05_spread.l1
      repeat' first
      | (with_reducible exact ih0 _ _ _)
      | (with_reducible exact ih1 _ _ _ _)
      | (with_reducible exact ebbtideref04_Lines.mono _ _)
      | (with_reducible exact LeO.refl _)
      | (with_reducible exact LeO.none _)
      | (with_reducible refine LeO.ite ?_ ?_)
      | (with_reducible refine LeO.bind ?_ (fun _ => ?_))
      | exact ih0 _ _ _
      | exact ih1 _ _ _ _
      | exact ebbtideref04_Lines.mono _ _
      | exact LeO.none _
      | refine LeO.ite ?_ ?_
      | refine LeO.bind ?_ (fun _ => ?_)
theorem ebbtidelaw05_spread.mono : ∀ a0 k, LeO (ebbtidelaw05_spread.f k a0) (ebbtidelaw05_spread.f (k + 1) a0) := by
  intro a0 k
  obtain ⟨ih0, ih1⟩ := ebbtidelaw05_spread.mono_l k
  unfold ebbtidelaw05_spread.f
  repeat' first
      | (with_reducible exact ih0 _ _ _)
      | (with_reducible exact ih1 _ _ _ _)
      | (with_reducible exact ebbtideref04_Lines.mono _ _)
      | (with_reducible exact LeO.refl _)
      | (with_reducible exact LeO.none _)
      | (with_reducible refine LeO.ite ?_ ?_)
      | (with_reducible refine LeO.bind ?_ (fun _ => ?_))
      | exact ih0 _ _ _
      | exact ih1 _ _ _ _
      | exact ebbtideref04_Lines.mono _ _
      | exact LeO.none _
      | refine LeO.ite ?_ ?_
      | refine LeO.bind ?_ (fun _ => ?_)
set_option maxHeartbeats 8000000 in
set_option maxRecDepth 100000 in
theorem ebbtidelaw05_spread.calls (k : Nat) (a0 : ByteArray) (r : ByteArray) (w : World) (h : ebbtidelaw05_spread.f k a0 = some r) :
    Calls Tryd.prog 18 #[.string a0] w fun e w' => e = .returned (.string r) ∧ Below w.heap.size w w' := by
  have HB := Aside0.mk (Below.refl w.heap.size w)
  have H : ((ebbtideref04_Lines.f k a0).bind fun t249 => (ebbtidelaw05_spread.l0 k t249 (⟨#[]⟩ : ByteArray) 0)) = some r := h
  clear h
  replace H := Option.bind_eq_some_iff.mp H
  obtain ⟨t249, A20, H⟩ := H
  replace H : (ebbtidelaw05_spread.l0 k t249 (⟨#[]⟩ : ByteArray) 0) = some r := H
  have A2 := Aside0.mk A20
  clear A20
  have H' := Aside0.mk H
  clear H
  go_enter Tryd.func18, Tryd.ntmps18
  go_wp2_with (first | ((with_reducible refine gate_callee (f := 19) rfl ?_); refine goesL_ (some 8) rfl rfl Tryd.func19 (by kernel_rfl) rfl #[.string a0] rfl (by (try simp only [List.map_toArray, List.map_cons, List.map_nil]); first | done | rfl | (simp only [List.length_drop, List.length_take]; rfl)) ?_; (with_reducible refine (ebbtideref04_Lines.calls k a0 t249 _ A2.out).mono ?_); rintro e w3 ⟨v250, rfl, ho0, hb⟩; refine ⟨_, rfl, ?_⟩; have n0_ := Aside0.mk (Kd.R_lower ho0 (below_size (by repeat (first | (with_reducible first | exact HB.out | apply below_alloc | apply pw_below_drewN | apply below_drew1) | exact HB.out)))); have n1_ := Aside0.mk (below_step (by repeat (first | (with_reducible first | exact HB.out | apply below_alloc | apply pw_below_drewN | apply below_drew1) | exact HB.out)) hb); clear HB; have HO251 := n0_; have HB := n1_; clear n0_ n1_; (try clear hb); (try clear hb2); (try clear hk); (try clear hi); (try clear ho0)))
  go_loopg [4, 5] k (fun kq v4 v5 w' => ∃ (x4_1 : ByteArray) (x5_1 : Int), v4 = .string x4_1 ∧ v5 = .int .i64 x5_1 ∧ Aside0 (ebbtidelaw05_spread.l0 kq t249 x4_1 x5_1 = some r) ∧ Aside0 (kq ≤ k) ∧ Aside0 (Kd.R Kd.string 9 w' w.heap.size (fun _ => True) v250 t249) ∧ Aside0 (Below w.heap.size w w'))
  case atStart => exact ⟨((⟨#[]⟩ : ByteArray)), (0), (by first | rfl | (simp; done) | (simp [*]; done)), (by first | rfl | (simp; done) | (simp [*]; done)), H', ⟨Nat.le_refl _⟩, ⟨by (with_reducible repeat (first | apply Kd.R_alloc | apply Kd.R_drewN | apply Kd.R_drew)); exact HO251.out⟩, ⟨by repeat (first | (with_reducible first | exact HB.out | apply below_alloc | apply pw_below_drewN | apply below_drew1) | exact HB.out)⟩⟩
  case round =>
    clear H'
    try clear c1
    try clear p2
    obtain ⟨x4_1, x5_1, rfl, rfl, HA, HK1, HO_3, HB⟩ := hrel
    cases gk with
    | zero => exact absurd HA.out (by simp [ebbtidelaw05_spread.l0])
    | succ k1 =>
      have H := HA.out
      clear HA
      simp only [ebbtidelaw05_spread.l0] at H
      by_cases c4 : x5_1 < (t249.length : Int)
      · rw [if_pos c4] at H
        have c4b0 : decide (x5_1 < (t249.length : Int)) = true := decide_eq_true c4
        clear c4
        by_cases c5 : x4_1.size + 2 ≤ 9223372036854775807
        · rw [if_pos c5] at H
          have c5b0 := eq_true c5
          have c5b1 : decide (x4_1.size + 2 ≤ 9223372036854775807) = true := decide_eq_true c5
          try have c5b2 : (9223372036854775807 < x4_1.size + 2) = False := eq_false (Nat.not_lt.2 c5)
          by_cases c6 : 0 ≤ x5_1
          · rw [if_pos c6] at H
            have c6b0 : decide (0 ≤ x5_1) = true := decide_eq_true c6
            clear c6
            by_cases c7 : (x4_1 ++ (⟨#[35, 32]⟩ : ByteArray)).size + (rdOf ByteArray.empty t249 x5_1).size ≤ 9223372036854775807
            · rw [if_pos c7] at H
              have c7b0 := eq_true c7
              have c7b1 : decide ((x4_1 ++ (⟨#[35, 32]⟩ : ByteArray)).size + (rdOf ByteArray.empty t249 x5_1).size ≤ 9223372036854775807) = true := decide_eq_true c7
              try have c7b2 : (9223372036854775807 < (x4_1 ++ (⟨#[35, 32]⟩ : ByteArray)).size + (rdOf ByteArray.empty t249 x5_1).size) = False := eq_false (Nat.not_lt.2 c7)
              have c7n : x4_1.size + 2 + (rdOf ByteArray.empty t249 x5_1).size ≤ 9223372036854775807 := by (have h_ := c7; (try simp only [ByteArray.size_append] at h_); exact h_)
              by_cases c8 : ((x4_1 ++ (⟨#[35, 32]⟩ : ByteArray)) ++ (rdOf ByteArray.empty t249 x5_1)).size + 4 ≤ 9223372036854775807
              · rw [if_pos c8] at H
                have c8b0 := eq_true c8
                have c8b1 : decide (((x4_1 ++ (⟨#[35, 32]⟩ : ByteArray)) ++ (rdOf ByteArray.empty t249 x5_1)).size + 4 ≤ 9223372036854775807) = true := decide_eq_true c8
                try have c8b2 : (9223372036854775807 < ((x4_1 ++ (⟨#[35, 32]⟩ : ByteArray)) ++ (rdOf ByteArray.empty t249 x5_1)).size + 4) = False := eq_false (Nat.not_lt.2 c8)
                have c8n : x4_1.size + 2 + (rdOf ByteArray.empty t249 x5_1).size + 4 ≤ 9223372036854775807 := by (have h_ := c8; (try simp only [ByteArray.size_append] at h_); exact h_)
                have H' := Aside0.mk H
                clear H
                obtain ⟨Ao9, co9, eo9⟩ := Kd.R_slice HO_3.out
                subst eo9
                have p252 : 0 ≤ (x5_1 : Int) := of_decide_eq_true (by first | (with_reducible assumption) | assumption)
                have q252 : x5_1 < (t249.length : Int) := of_decide_eq_true (by first | (with_reducible assumption) | assumption)
                obtain ⟨ad252, e252, hx252_0⟩ := Kd.at_string (Kd.R_reads' HO_3.out).2.2 x5_1 p252 q252
                cases e252
                replace p252 := eq_true p252
                replace q252 := eq_true q252
                go_wp2
                go_loopg [4, 6] k1 (fun kq v4 v6 w' => ∃ (x4_2 : ByteArray) (x6_2 : Int), v4 = .string x4_2 ∧ v6 = .int .i64 x6_2 ∧ Aside0 (ebbtidelaw05_spread.l1 kq t249 x4_2 x5_1 x6_2 = some r) ∧ Aside0 (kq ≤ k1) ∧ Aside0 (Kd.R Kd.string 9 w' w.heap.size (fun _ => True) (.slice (some ad252) t249.length co9) t249) ∧ Aside0 (Below w.heap.size w w'))
                case atStart => exact ⟨(((x4_1 ++ (⟨#[35, 32]⟩ : ByteArray)) ++ (rdOf ByteArray.empty t249 x5_1)) ++ (⟨#[10, 32, 10, 32]⟩ : ByteArray)), (0), (by first | rfl | (simp; done) | (simp [*]; done)), (by first | rfl | (simp; done) | (simp [*]; done)), H', ⟨Nat.le_refl _⟩, ⟨by (with_reducible repeat (first | apply Kd.R_alloc | apply Kd.R_drewN | apply Kd.R_drew)); exact HO_3.out⟩, ⟨by repeat (first | (with_reducible first | exact HB.out | apply below_alloc | apply pw_below_drewN | apply below_drew1) | exact HB.out)⟩⟩
                case round =>
                  clear H'
                  try clear c1
                  try clear p2
                  try clear q2
                  try clear hx2
                  try clear c4
                  try clear c4b0
                  try clear c5
                  try clear c5b0
                  try clear c5b1
                  try clear c5b2
                  try clear c6
                  try clear c6b0
                  try clear c7
                  try clear c7b0
                  try clear c7b1
                  try clear c7b2
                  try clear c8
                  try clear c8b0
                  try clear c8b1
                  try clear c8b2
                  try clear hx252_0
                  try clear p2
                  try clear p252
                  try clear q252
                  obtain ⟨x4_2, x6_2, rfl, rfl, HA, HK2, HO_3, HB⟩ := hrel
                  cases gk with
                  | zero => exact absurd HA.out (by simp [ebbtidelaw05_spread.l1])
                  | succ k2 =>
                    have H := HA.out
                    clear HA
                    simp only [ebbtidelaw05_spread.l1] at H
                    by_cases c10 : 0 ≤ x5_1
                    · rw [if_pos c10] at H
                      have c10b0 : decide (0 ≤ x5_1) = true := decide_eq_true c10
                      clear c10
                      by_cases c11 : x5_1 < (t249.length : Int)
                      · rw [if_pos c11] at H
                        have c11b0 : decide (x5_1 < (t249.length : Int)) = true := decide_eq_true c11
                        clear c11
                        by_cases c12 : x6_2 < ((rdOf ByteArray.empty t249 x5_1).size : Int)
                        · rw [if_pos c12] at H
                          have c12b0 : decide (x6_2 < ((rdOf ByteArray.empty t249 x5_1).size : Int)) = true := decide_eq_true c12
                          clear c12
                          by_cases c13 : 0 ≤ x6_2
                          · rw [if_pos c13] at H
                            have c13b0 := eq_true c13
                            have c13b1 : decide (0 ≤ x6_2) = true := decide_eq_true c13
                            clear c13
                            by_cases c14 : x6_2 ≤ (wrap64 (x6_2 + 1))
                            · rw [if_pos c14] at H
                              have c14b0 := eq_true c14
                              have c14b1 : decide (x6_2 ≤ (wrap64 (x6_2 + 1))) = true := decide_eq_true c14
                              by_cases c15 : (wrap64 (x6_2 + 1)) ≤ ((rdOf ByteArray.empty t249 x5_1).size : Int)
                              · rw [if_pos c15] at H
                                have c15b0 := eq_true c15
                                have c15b1 : decide ((wrap64 (x6_2 + 1)) ≤ ((rdOf ByteArray.empty t249 x5_1).size : Int)) = true := decide_eq_true c15
                                by_cases c16 : x4_2.size + ((rdOf ByteArray.empty t249 x5_1).extract (x6_2 : Int).toNat ((wrap64 (x6_2 + 1)) : Int).toNat).size ≤ 9223372036854775807
                                · rw [if_pos c16] at H
                                  have c16b0 := eq_true c16
                                  have c16b1 : decide (x4_2.size + ((rdOf ByteArray.empty t249 x5_1).extract (x6_2 : Int).toNat ((wrap64 (x6_2 + 1)) : Int).toNat).size ≤ 9223372036854775807) = true := decide_eq_true c16
                                  try have c16b2 : (9223372036854775807 < x4_2.size + ((rdOf ByteArray.empty t249 x5_1).extract (x6_2 : Int).toNat ((wrap64 (x6_2 + 1)) : Int).toNat).size) = False := eq_false (Nat.not_lt.2 c16)
                                  by_cases c18 : (bt (rdOf ByteArray.empty t249 x5_1) x6_2) = 32
                                  · rw [if_pos c18] at H
                                    have c18b0 : ((bt (rdOf ByteArray.empty t249 x5_1) x6_2) == 32) = true := beq_iff_eq.mpr c18
                                    have c18b1 : ((bt (rdOf ByteArray.empty t249 x5_1) x6_2) != 32) = false := bne_eq_false_iff_eq.mpr c18
                                    clear c18
                                    by_cases c19 : (x4_2 ++ ((rdOf ByteArray.empty t249 x5_1).extract (x6_2 : Int).toNat ((wrap64 (x6_2 + 1)) : Int).toNat)).size + 2 ≤ 9223372036854775807
                                    · rw [if_pos c19] at H
                                      have c19b0 := eq_true c19
                                      have c19b1 : decide ((x4_2 ++ ((rdOf ByteArray.empty t249 x5_1).extract (x6_2 : Int).toNat ((wrap64 (x6_2 + 1)) : Int).toNat)).size + 2 ≤ 9223372036854775807) = true := decide_eq_true c19
                                      try have c19b2 : (9223372036854775807 < (x4_2 ++ ((rdOf ByteArray.empty t249 x5_1).extract (x6_2 : Int).toNat ((wrap64 (x6_2 + 1)) : Int).toNat)).size + 2) = False := eq_false (Nat.not_lt.2 c19)
                                      have c19n : x4_2.size + ((rdOf ByteArray.empty t249 x5_1).extract (x6_2 : Int).toNat ((wrap64 (x6_2 + 1)) : Int).toNat).size + 2 ≤ 9223372036854775807 := by (have h_ := c19; (try simp only [ByteArray.size_append] at h_); exact h_)
                                      have c19m := c19
                                      (try simp only [ByteArray.size_append, ByteArray.size_extract] at c19m)
                                      have H' := Aside0.mk H
                                      clear H
                                      have p253 : 0 ≤ (x5_1 : Int) := of_decide_eq_true (by first | (with_reducible assumption) | assumption)
                                      have q253 : x5_1 < (t249.length : Int) := of_decide_eq_true (by first | (with_reducible assumption) | assumption)
                                      obtain ⟨ad253, e253, hx253_0⟩ := Kd.at_string (Kd.R_reads' HO_3.out).2.2 x5_1 p253 q253
                                      obtain rfl : ad252 = ad253 := (by injection e253)
                                      replace p253 := eq_true p253
                                      replace q253 := eq_true q253
                                      have p254 : 0 ≤ (x5_1 : Int) := of_decide_eq_true (by first | (with_reducible assumption) | assumption)
                                      have q254 : x5_1 < (t249.length : Int) := of_decide_eq_true (by first | (with_reducible assumption) | assumption)
                                      obtain ⟨ad254, e254, hx254_0⟩ := Kd.at_string (Kd.R_reads' HO_3.out).2.2 x5_1 p254 q254
                                      obtain rfl : ad252 = ad254 := (by injection e254)
                                      replace p254 := eq_true p254
                                      replace q254 := eq_true q254
                                      have p255 : 0 ≤ (x5_1 : Int) := of_decide_eq_true (by first | (with_reducible assumption) | assumption)
                                      have q255 : x5_1 < (t249.length : Int) := of_decide_eq_true (by first | (with_reducible assumption) | assumption)
                                      obtain ⟨ad255, e255, hx255_0⟩ := Kd.at_string (Kd.R_reads' HO_3.out).2.2 x5_1 p255 q255
                                      obtain rfl : ad252 = ad255 := (by injection e255)
                                      replace p255 := eq_true p255
                                      replace q255 := eq_true q255
                                      have p17 : 0 ≤ (x6_2 : Int) := of_decide_eq_true (by first | (with_reducible assumption) | assumption)
                                      have q17 : x6_2 < ((rdOf ByteArray.empty t249 x5_1).size : Int) := of_decide_eq_true (by first | (with_reducible assumption) | assumption)
                                      have hx17 := bt_at (rdOf ByteArray.empty t249 x5_1) x6_2
                                      replace p17 := eq_true p17
                                      replace q17 := eq_true q17
                                      go_wp2
                                      go_roundg k2
                                      case measure => have := HK1.out; have := HK2.out; omega
                                      case rel => exact ⟨((x4_2 ++ ((rdOf ByteArray.empty t249 x5_1).extract (x6_2 : Int).toNat ((wrap64 (x6_2 + 1)) : Int).toNat)) ++ (⟨#[32, 32]⟩ : ByteArray)), (wrap64 (x6_2 + 1)), (by first | rfl | (simp; done) | (simp [*]; done)), (by first | rfl | (simp; done) | (simp [*]; done)), H', ⟨by have := HK1.out; have := HK2.out; omega⟩, ⟨by (with_reducible repeat (first | apply Kd.R_alloc | apply Kd.R_drewN | apply Kd.R_drew)); exact HO_3.out⟩, ⟨by repeat (first | (with_reducible first | exact HB.out | apply below_alloc | apply pw_below_drewN | apply below_drew1) | exact HB.out)⟩⟩
                                    · rw [if_neg c19] at H
                                      exact absurd H (by simp)
                                  · rw [if_neg c18] at H
                                    have c18b0 : ((bt (rdOf ByteArray.empty t249 x5_1) x6_2) == 32) = false := beq_eq_false_iff_ne.mpr c18
                                    have c18b1 : ((bt (rdOf ByteArray.empty t249 x5_1) x6_2) != 32) = true := bne_iff_ne.mpr c18
                                    have H' := Aside0.mk H
                                    clear H
                                    have p253 : 0 ≤ (x5_1 : Int) := of_decide_eq_true (by first | (with_reducible assumption) | assumption)
                                    have q253 : x5_1 < (t249.length : Int) := of_decide_eq_true (by first | (with_reducible assumption) | assumption)
                                    obtain ⟨ad253, e253, hx253_0⟩ := Kd.at_string (Kd.R_reads' HO_3.out).2.2 x5_1 p253 q253
                                    obtain rfl : ad252 = ad253 := (by injection e253)
                                    replace p253 := eq_true p253
                                    replace q253 := eq_true q253
                                    have p254 : 0 ≤ (x5_1 : Int) := of_decide_eq_true (by first | (with_reducible assumption) | assumption)
                                    have q254 : x5_1 < (t249.length : Int) := of_decide_eq_true (by first | (with_reducible assumption) | assumption)
                                    obtain ⟨ad254, e254, hx254_0⟩ := Kd.at_string (Kd.R_reads' HO_3.out).2.2 x5_1 p254 q254
                                    obtain rfl : ad252 = ad254 := (by injection e254)
                                    replace p254 := eq_true p254
                                    replace q254 := eq_true q254
                                    have p255 : 0 ≤ (x5_1 : Int) := of_decide_eq_true (by first | (with_reducible assumption) | assumption)
                                    have q255 : x5_1 < (t249.length : Int) := of_decide_eq_true (by first | (with_reducible assumption) | assumption)
                                    obtain ⟨ad255, e255, hx255_0⟩ := Kd.at_string (Kd.R_reads' HO_3.out).2.2 x5_1 p255 q255
                                    obtain rfl : ad252 = ad255 := (by injection e255)
                                    replace p255 := eq_true p255
                                    replace q255 := eq_true q255
                                    have p17 : 0 ≤ (x6_2 : Int) := of_decide_eq_true (by first | (with_reducible assumption) | assumption)
                                    have q17 : x6_2 < ((rdOf ByteArray.empty t249 x5_1).size : Int) := of_decide_eq_true (by first | (with_reducible assumption) | assumption)
                                    have hx17 := bt_at (rdOf ByteArray.empty t249 x5_1) x6_2
                                    replace p17 := eq_true p17
                                    replace q17 := eq_true q17
                                    go_wp2
                                    go_roundg k2
                                    case measure => have := HK1.out; have := HK2.out; omega
                                    case rel => exact ⟨(x4_2 ++ ((rdOf ByteArray.empty t249 x5_1).extract (x6_2 : Int).toNat ((wrap64 (x6_2 + 1)) : Int).toNat)), (wrap64 (x6_2 + 1)), (by first | rfl | (simp; done) | (simp [*]; done)), (by first | rfl | (simp; done) | (simp [*]; done)), H', ⟨by have := HK1.out; have := HK2.out; omega⟩, ⟨by (with_reducible repeat (first | apply Kd.R_alloc | apply Kd.R_drewN | apply Kd.R_drew)); exact HO_3.out⟩, ⟨by repeat (first | (with_reducible first | exact HB.out | apply below_alloc | apply pw_below_drewN | apply below_drew1) | exact HB.out)⟩⟩
                                · rw [if_neg c16] at H
                                  exact absurd H (by simp)
                              · rw [if_neg c15] at H
                                exact absurd H (by simp)
                            · rw [if_neg c14] at H
                              exact absurd H (by simp)
                          · rw [if_neg c13] at H
                            exact absurd H (by simp)
                        · rw [if_neg c12] at H
                          have c12b0 : decide (x6_2 < ((rdOf ByteArray.empty t249 x5_1).size : Int)) = false := decide_eq_false c12
                          clear c12
                          by_cases c20 : x4_2.size + 2 ≤ 9223372036854775807
                          · rw [if_pos c20] at H
                            have c20b0 := eq_true c20
                            have c20b1 : decide (x4_2.size + 2 ≤ 9223372036854775807) = true := decide_eq_true c20
                            try have c20b2 : (9223372036854775807 < x4_2.size + 2) = False := eq_false (Nat.not_lt.2 c20)
                            have H' := Aside0.mk H
                            clear H
                            have p253 : 0 ≤ (x5_1 : Int) := of_decide_eq_true (by first | (with_reducible assumption) | assumption)
                            have q253 : x5_1 < (t249.length : Int) := of_decide_eq_true (by first | (with_reducible assumption) | assumption)
                            obtain ⟨ad253, e253, hx253_0⟩ := Kd.at_string (Kd.R_reads' HO_3.out).2.2 x5_1 p253 q253
                            obtain rfl : ad252 = ad253 := (by injection e253)
                            replace p253 := eq_true p253
                            replace q253 := eq_true q253
                            go_wp2
                            go_roundg k2
                            case measure => have := HK1.out; have := HK2.out; omega
                            case rel => exact ⟨(x4_2 ++ (⟨#[32, 10]⟩ : ByteArray)), (wrap64 (x5_1 + 1)), (by first | rfl | (simp; done) | (simp [*]; done)), (by first | rfl | (simp; done) | (simp [*]; done)), H', ⟨by have := HK1.out; have := HK2.out; omega⟩, ⟨by (with_reducible repeat (first | apply Kd.R_alloc | apply Kd.R_drewN | apply Kd.R_drew)); exact HO_3.out⟩, ⟨by repeat (first | (with_reducible first | exact HB.out | apply below_alloc | apply pw_below_drewN | apply below_drew1) | exact HB.out)⟩⟩
                          · rw [if_neg c20] at H
                            exact absurd H (by simp)
                      · rw [if_neg c11] at H
                        exact absurd H (by simp)
                    · rw [if_neg c10] at H
                      exact absurd H (by simp)
              · rw [if_neg c8] at H
                exact absurd H (by simp)
            · rw [if_neg c7] at H
              exact absurd H (by simp)
          · rw [if_neg c6] at H
            exact absurd H (by simp)
        · rw [if_neg c5] at H
          exact absurd H (by simp)
      · rw [if_neg c4] at H
        have c4b0 : decide (x5_1 < (t249.length : Int)) = false := decide_eq_false c4
        clear c4
        obtain rfl := Option.some.inj H
        obtain ⟨Ao21, co21, eo21⟩ := Kd.R_slice HO_3.out
        subst eo21
        go_wp2
        go_ret
        exact ⟨by first | rfl | (simp [errW_none, errW_some] <;> rfl) | (simp [*, errW_none, errW_some] <;> rfl), by repeat (first | (with_reducible first | exact HB.out | apply below_alloc | apply pw_below_drewN | apply below_drew1) | exact HB.out)⟩

-- NOT PRINTED: function 8 (ebbtidelaw05_NetfmtIdle)

-- NOT PRINTED: function 9 (ebbtidelaw05_NetfmtMore)

end Go.Proofs.YthalacoockoomaaDoor.Print
