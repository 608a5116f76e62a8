/- Texts of this proof, joined; what the statement doesn't need is left out. -/
import Derived.Test.YtdfagllncopmjaaV2
section
namespace Go.Proofs.Ytdfagllncopmjaa.H
open Go Go.RowKit Go.Proofs.Ytdfagllncopmjaa.PrintC Go.Proofs.YtdfagllncopmjaaW.PrintWords Go.Proofs.YtdfagllncopmjaaW.PrintLast Go.Proofs.YtdfagllncopmjaaW.PrintMore
set_option linter.unusedVariables false
set_option linter.unusedSimpArgs false
theorem infoSteps : (Try.prog.info? 103).map (fun i => (i.zero, i.size, i.bytes)) = some (some (.slice none 0 0), 1, 24) := by kernel_rfl
set_option maxHeartbeats 4000000 in
set_option maxRecDepth 100000 in
theorem at_walk (k n : Nat) (b : Bool) (A : Option Addr) (c : Nat) (l : List S48) (Af : Option Addr) (lf cf : Nat) (ro ri : List (List Int)) (w : World) (h0 : 0 < n) (h1 : n ≤ 1000000) (hr : Kd.C k48 w A l.length l) (hc : l.length ≤ c)
  (ho : PrintLF.adj_lists.f k n b l = some ro) (hi : PrintLT.adj_lists.f k n b l = some ri) (hro : ro.length = n) (hri : ri.length = n) (hlo : ∀ u, (ro.getD u []).length + (ri.getD u []).length ≤ 2000000) :
  Calls Try.prog 33 #[.agg #[.int .i64 n, .bool b, .slice A l.length c], .slice Af lf cf] w fun e w' => ∃ (g : Nat) (rows : List (List S105)), e = .returned (.agg #[.int .i64 n, .bool b, .slice A l.length c, .slice Af lf cf, .slice (some ⟨g, 0, none⟩) n n]) ∧ Kd.S kSteps 103 w' w.heap.size (fun _ => True) (.slice (some ⟨g, 0, none⟩) n n) rows ∧ Stage ro ri n n rows ∧ Below w.heap.size w w' := by
 have HR := zh hr
 have HC := zh hc
 have HO := zh ho
 have HI := zh hi
 have HL := zh hlo
 clear hr hc ho hi hlo
 have hu := Try.underlying28
 have hu2 := Try.underlying87
 have hmk : ∀ W : World, (Instr.makeSlice 85 (.int .i64 (n : Int)) (.int .i64 (n : Int))).run Try.prog W = .ok (.slice (some ⟨W.heap.size, 0, none⟩) n n) (W.alloc (.cells (madeCells #[.slice none 0 0] n) 103)) := fun W => by
  obtain ⟨i0, hi, hz0, hz1, hz2⟩ := info_parts infoSteps
  have := run_make (P := Try.prog) W 85 103 i0 (.slice none 0 0) Try.underlying85 hi hz0 .i64 .i64 (n : Int) (n : Int) (by omega) (by omega) (by rw [hz2]; omega) (by omega)
  rw [hz1, Int.toNat_natCast, Nat.mul_one] at this
  exact this
 go_enter Try.func33, Try.ntmps33
 go_wp2
 rename_i Q0 K0 aK
 have fin : ∀ (g gx : Nat) (W : World), Hid (AtPre w n b A l.length c Af lf cf g gx W) →
   K0 { tmps := #[.agg #[.int .i64 n, .bool b, .slice A l.length c], .slice Af lf cf, .pointer (some ⟨w.heap.size, 0, none⟩), undef, .pointer (some ⟨w.heap.size + 1, 0, none⟩), .pointer (some ⟨gx, 0, none⟩), undef, undef, undef, undef, undef, undef, undef, .agg #[.int .i64 n, .bool b, .slice A l.length c], .slice Af lf cf, .agg #[.int .i64 n, .bool b, .slice A l.length c, .slice Af lf cf], .pointer (some ⟨w.heap.size, 0, none⟩), .int .i64 n, .slice (some ⟨g, 0, none⟩) n n, .agg #[.int .i64 n, .bool b, .slice A l.length c, .slice Af lf cf, .slice (some ⟨g, 0, none⟩) n n], undef, undef, undef, undef, undef, undef, undef, undef, undef, undef, undef, undef, undef, undef, undef, undef, undef, undef, undef, undef, undef, undef, undef, undef, undef, undef, undef, undef, undef, undef, undef, undef, undef, undef, undef, undef, undef, undef, undef, undef, undef, undef, undef, undef, undef, undef, undef, undef, undef, undef, undef, undef, undef, undef, undef, undef, undef, undef, undef, undef, undef, undef, undef], defers := [] } W := by
  intro g gx W HP
  clear hmk
  refine aK _ _ ?_
  clear aK K0
  obtain ⟨hg, hI⟩ := HP.out
  have HI' := zh hI
  have hg0 := blk_cell hg 0
  have hg1 := blk_cell hg 1
  have hg2 := blk_cell hg 2
  simp at hg0 hg1 hg2
  go_wp2
  rename_i K1 aK1
  have fin2 : ∀ (v v2 : Value) (W2 : World), W2.cell? ⟨w.heap.size, 0, none⟩ = some (.int .i64 n) → Hid (AtI w n g v v2 ro ri gx (w.heap.size + 1) #[.int .i64 n, .bool b, .slice A l.length c, .slice Af lf cf, .slice (some ⟨g, 0, none⟩) n n] #[.int .i64 0, .bool false, .slice none 0 0, .slice none 0 0, .slice none 0 0] (List.replicate n []) W2) → K1 { tmps := #[.agg #[.int .i64 n, .bool b, .slice A l.length c], .slice Af lf cf, .pointer (some ⟨w.heap.size, 0, none⟩), undef, .pointer (some ⟨w.heap.size + 1, 0, none⟩), .pointer (some ⟨gx, 0, none⟩), v, v2, undef, undef, undef, undef, undef, .agg #[.int .i64 n, .bool b, .slice A l.length c], .slice Af lf cf, .agg #[.int .i64 n, .bool b, .slice A l.length c, .slice Af lf cf], .pointer (some ⟨w.heap.size, 0, none⟩), .int .i64 n, .slice (some ⟨g, 0, none⟩) n n, .agg #[.int .i64 n, .bool b, .slice A l.length c, .slice Af lf cf, .slice (some ⟨g, 0, none⟩) n n], .agg #[.int .i64 n, .bool b, .slice A l.length c], v, .agg #[.int .i64 n, .bool b, .slice A l.length c], v2, undef, undef, undef, undef, undef, undef, undef, undef, undef, undef, undef, undef, undef, undef, undef, undef, undef, undef, undef, undef, undef, undef, undef, undef, undef, undef, undef, undef, undef, undef, undef, undef, undef, undef, undef, undef, undef, undef, undef, undef, undef, undef, undef, undef, undef, undef, undef, undef, undef, undef, undef, undef, undef, undef, undef, undef, undef, undef, undef], defers := [] } W2 := by
   intro v v2 W2 z0 HJ
   clear hg0 hg1 hg2 HI' HP hg hI
   refine aK1 _ _ ?_
   clear aK1 K1
   obtain ⟨Ao, co, rfl⟩ := Kd.S_slice HJ.out.out
   obtain ⟨Ai, ci, rfl⟩ := Kd.S_slice HJ.out.inn
   go_wp2
   go_loopw [26] (fun cv W => ∃ (v0 : Nat) (rows : List (List S105)), v0 ≤ n ∧ cv = .int .i64 v0 ∧ Hid (AtI w n g (.slice Ao ro.length co) (.slice Ai ri.length ci) ro ri gx (w.heap.size + 1) #[.int .i64 n, .bool b, .slice A l.length c, .slice Af lf cf, .slice (some ⟨g, 0, none⟩) n n] #[.int .i64 0, .bool false, .slice none 0 0, .slice none 0 0, .slice none 0 0] rows W ∧ Stage ro ri n v0 rows)) (fun cv _ => n - (intOf cv).toNat)
   case atStart => exact ⟨0, _, Nat.zero_le _, rfl, zh ⟨HJ.out, stage_start ro ri n⟩⟩
   case round =>
    obtain ⟨v0, rows, hv, rfl, HK⟩ := hrel
    clear HJ
    by_cases hlt : v0 < n
    ·obtain ⟨hA, hSt⟩ := HK.out
     obtain ⟨go, A1, c1, e1, hx1, hr1⟩ := list_at hA.out v0 (by omega)
     subst e1
     obtain ⟨rl, hrl⟩ : ∃ rl, rl = ro.getD v0 [] := ⟨_, rfl⟩
     rw [← hrl] at hx1 hr1
     have HRL := zh hrl
     have HST := zh hSt
     have HJ1 : Hid (AtI w n g (.slice (some ⟨go, 0, none⟩) ro.length co) (.slice Ai ri.length ci) ro ri gx (w.heap.size + 1) #[.int .i64 n, .bool b, .slice A l.length c, .slice Af lf cf, .slice (some ⟨g, 0, none⟩) n n] #[.int .i64 0, .bool false, .slice none 0 0, .slice none 0 0, .slice none 0 0] (rows.set v0 (fwd (rl.take 0))) wr ∧ Kd.R (Kd.int .i64) 3 wr w.heap.size (fun _ => True) (.slice A1 rl.length c1) rl) := zh ⟨by
      have : rows.set v0 (fwd (rl.take 0)) = rows := by
       have h5 := ((hSt.2 v0 hlt).2 (Nat.le_refl _))
       have h6 : v0 < rows.length := by rw [hSt.1]; exact hlt
       rw [List.getD_eq_getElem?_getD, List.getElem?_eq_getElem h6] at h5
       have h7 : rows[v0] = [] := h5
       rw [List.take_zero]
       show rows.set v0 [] = rows
       rw [← h7]
       exact List.set_getElem_self h6
      rw [this]
      exact hA, hr1⟩
     have i0 : (0 : Int) ≤ (v0 : Int) := by omega
     have i1 : (v0 : Int) < (ro.length : Int) := by omega
     clear hA hSt hrl hr1 HK
     go_wp2
     go_loopg [34] (rl.length + 1) (fun k jv W => ∃ j : Nat, j ≤ rl.length ∧ jv = .int .i64 j ∧ k = rl.length + 1 - j ∧ Hid (AtI w n g (.slice (some ⟨go, 0, none⟩) ro.length co) (.slice Ai ri.length ci) ro ri gx (w.heap.size + 1) #[.int .i64 n, .bool b, .slice A l.length c, .slice Af lf cf, .slice (some ⟨g, 0, none⟩) n n] #[.int .i64 0, .bool false, .slice none 0 0, .slice none 0 0, .slice none 0 0] (rows.set v0 (fwd (rl.take j))) W ∧ Kd.R (Kd.int .i64) 3 W w.heap.size (fun _ => True) (.slice A1 rl.length c1) rl))
     case atStart => exact ⟨0, Nat.zero_le _, rfl, rfl, HJ1⟩
     case round =>
      obtain ⟨j, hj, rfl, rfl, HK⟩ := hrel
      clear HJ1
      by_cases hjl : j < rl.length
      ·obtain ⟨hA, hr⟩ := HK.out
       obtain ⟨ga, ca, ea, _, _, _⟩ := Kd.R_form hr (by omega)
       injection ea with ea1 ea2 ea3
       clear ea2 ea3
       subst ea1
       obtain ⟨ce, hcl, hM, hcc, _⟩ := Kd.R_elem hr 0 (j : Int) (by omega) (by omega)
       obtain ⟨x0, hx0⟩ : ∃ x0, x0 = rl.getD j 0 := ⟨_, rfl⟩
       have hx2 : ce = [.int .i64 (rl.getD j 0)] := hM
       rw [← hx0] at hx2
       subst hx2
       have hx3 : wr.cell? ⟨ga, j, none⟩ = some (.int .i64 x0) := by
        have := hcc 0 _ rfl
        rw [Int.toNat_natCast, show (Kd.int .i64).sz = 1 from rfl, Nat.mul_one, Nat.add_zero] at this
        exact this
       have q4 : wr.cell? ⟨gx, 4, none⟩ = some (.slice (some ⟨g, 0, none⟩) n n) := (blk_cell hA.bx 4).trans rfl
       have q42 : (wr.alloc (.cells #[.int .i64 x0, .bool false] 105)).cell? ⟨gx, 4, none⟩ = some (.slice (some ⟨g, 0, none⟩) n n) := pw_cell_below (below_alloc (Below.refl _ _) _) q4
       obtain ⟨Ar, cr, oki, hop⟩ := hA.open_ v0 hlt
       obtain ⟨row, hrow⟩ : ∃ row, row = (rows.set v0 (fwd (rl.take j))).getD v0 [] := ⟨_, rfl⟩
       have hat := hop.at_
       rw [← hrow] at hat
       have hat2 : (wr.alloc (.cells #[.int .i64 x0, .bool false] 105)).cell? ⟨g, v0, none⟩ = some (.slice Ar row.length cr) := pw_cell_below (below_alloc (Below.refl _ _) _) hat
       have hfr := hop.free
       have HRR : Hid (Kd.R kStep 105 wr w.heap.size oki (.slice Ar row.length cr) row) := zh (by rw [hrow]; exact hop.row)
       have HOP := zh hop
       have HA := zh hA
       have HR1 := zh hr
       have HX := zh hx0
       have HRW := zh hrow
       have j0 : (0 : Int) ≤ (j : Int) := by omega
       have j1 : (j : Int) < (rl.length : Int) := by omega
       have HLN : Hid ((row.length + 1) * 16 ≤ 140737488355328) := zh (by
        have h7 : v0 < rows.length := by rw [HST.out.1]; exact hlt
        have h8 : row = fwd (rl.take j) := by rw [hrow, getD_set h7]
        have h9 := HL.out v0
        rw [← HRL.out] at h9
        rw [h8, fwd_len, List.length_take]
        omega)
       clear hA hr hop hcc hM hcl HK hx0 hrow
       have HE : Hid ((rows.set v0 (fwd (rl.take j))).set v0 (row ++ [(⟨x0, false⟩ : S105)]) = rows.set v0 (fwd (rl.take (j + 1)))) := zh (by
        have h7 : v0 < rows.length := by rw [HST.out.1]; exact hlt
        rw [List.set_set, HRW.out, getD_set h7, HX.out, fwd_push hjl])
       go_wp2
       have HJB : Hid (rl.length ≤ 2000000) := zh (by have h9 := HL.out v0; rw [← HRL.out] at h9; omega)
       rename_i K9 aK9
       have fin9 : ∀ (A9 : Option Addr) (c9 : Nat) (W : World), Hid (AtI w n g (.slice (some ⟨go, 0, none⟩) ro.length co) (.slice Ai ri.length ci) ro ri gx (w.heap.size + 1) #[.int .i64 n, .bool b, .slice A l.length c, .slice Af lf cf, .slice (some ⟨g, 0, none⟩) n n] #[.int .i64 0, .bool false, .slice none 0 0, .slice none 0 0, .slice none 0 0] (rows.set v0 (fwd (rl.take (j + 1)))) W ∧ Kd.R (Kd.int .i64) 3 W w.heap.size (fun _ => True) (.slice (some ⟨ga, 0, none⟩) rl.length c1) rl) →
         K9 { tmps := #[.agg #[.int .i64 n, .bool b, .slice A l.length c], .slice Af lf cf, .pointer (some ⟨w.heap.size, 0, none⟩), undef, .pointer (some ⟨w.heap.size + 1, 0, none⟩), .pointer (some ⟨gx, 0, none⟩), .slice (some ⟨go, 0, none⟩) n co, .slice Ai n ci, .int .i64 v0, undef, .int .i64 x0, undef, u12, .agg #[.int .i64 n, .bool b, .slice A l.length c], .slice Af lf cf, .agg #[.int .i64 n, .bool b, .slice A l.length c, .slice Af lf cf], .pointer (some ⟨w.heap.size, 0, none⟩), .int .i64 n, .slice (some ⟨g, 0, none⟩) n n, .agg #[.int .i64 n, .bool b, .slice A l.length c, .slice Af lf cf, .slice (some ⟨g, 0, none⟩) n n], .agg #[.int .i64 n, .bool b, .slice A l.length c], .slice (some ⟨go, 0, none⟩) n co, .agg #[.int .i64 n, .bool b, .slice A l.length c], .slice Ai n ci, .pointer (some ⟨w.heap.size, 0, none⟩), .int .i64 n, .int .i64 v0, .bool true, .int .i64 v0, .slice (some ⟨go, 0, none⟩) n co, .int .i64 v0, .pointer (some ⟨go, v0, none⟩), .slice (some ⟨ga, 0, none⟩) rl.length c1, .int .i64 rl.length, .int .i64 j, .bool true, .pointer (some ⟨ga, j, none⟩), .int .i64 x0, .pointer (some ⟨gx, 4, none⟩), .slice (some ⟨g, 0, none⟩) n n, .int .i64 v0, .pointer (some ⟨gx, 4, none⟩), .slice (some ⟨g, 0, none⟩) n n, .int .i64 v0, .pointer (some ⟨g, v0, none⟩), .slice Ar row.length cr, .int .i64 x0, .agg #[.int .i64 x0, .bool false], .slice (some ⟨wr.heap.size, 0, none⟩) 1 1, .slice A9 (row.length + 1) c9, .pointer (some ⟨g, v0, none⟩), u51, u52, u53, u54, u55, u56, u57, u58, u59, u60, u61, u62, u63, u64, u65, u66, u67, u68, u69, u70, u71, u72, u73, u74, u75, u76, u77, u78, u79, u80, u81, undef], defers := [] } W := by
        intro A9 c9 W HF9
        clear hat hat2 hfr q4 q42
        refine aK9 _ _ ?_
        clear aK9 K9
        go_wp2
        go_roundg (rl.length - j)
        case rel => exact ⟨j + 1, by omega, by rw [w1n j (by have := HJB.out; omega)], by omega, HF9⟩
        case measure => omega
       refine start_ (n := 14) (S := fun w' => w'.cell? ⟨gx, 4, none⟩ = some (.slice (some ⟨g, 0, none⟩) n n) ∧ w'.cell? ⟨g, v0, none⟩ = some (.slice Ar row.length cr)) (ds := [13]) #[false, false, false, false, false, false, false, false, false, false, false, false, false, false] (by kernel_rfl) rfl rfl ⟨q4, hat⟩ (fun hHeld => ?_)
       refine pure_ (i := 0) (N := some 38) (v := ?_) (a' := ?_) #[true, false, false, false, false, false, false, false, false, false, false, false, false, false] rfl rfl (by kernel_rfl) (fun _ _ _ h => h) (Or.inl ⟨by rfl, ?_⟩) ?_ ?_
       rotate_left
       ·intro w'
        go_simp
        with_reducible rfl
       rotate_left
       ·simp only [Act.put, List.setIfInBounds_toArray, List.set_cons_zero, List.set_cons_succ, i64_w, i32_w]
        rfl
       refine take_ (i := 1) (N := some 39) (v := ?_) (a' := ?_) #[true, true, false, false, false, false, false, false, false, false, false, false, false, false] rfl rfl (by kernel_rfl) (fun _ _ _ h => h) (Or.inl ⟨by rfl, ?_⟩) hHeld ?_ ?_
       rotate_left
       ·rintro w' ⟨s0, s1⟩
        go_simp
        with_reducible rfl
       rotate_left
       ·simp only [Act.put, List.setIfInBounds_toArray, List.set_cons_zero, List.set_cons_succ, i64_w, i32_w]
        rfl
       refine pure_ (i := 2) (N := some 40) (v := ?_) (a' := ?_) #[true, true, true, false, false, false, false, false, false, false, false, false, false, false] rfl rfl (by kernel_rfl) (fun _ _ _ h => h) (Or.inl ⟨by rfl, ?_⟩) ?_ ?_
       rotate_left
       ·intro w'
        go_simp
        with_reducible rfl
       rotate_left
       ·simp only [Act.put, List.setIfInBounds_toArray, List.set_cons_zero, List.set_cons_succ, i64_w, i32_w]
        rfl
       refine pure_ (i := 3) (N := some 41) (v := ?_) (a' := ?_) #[true, true, true, true, false, false, false, false, false, false, false, false, false, false] rfl rfl (by kernel_rfl) (fun _ _ _ h => h) (Or.inl ⟨by rfl, ?_⟩) ?_ ?_
       rotate_left
       ·intro w'
        go_simp
        with_reducible rfl
       rotate_left
       ·simp only [Act.put, List.setIfInBounds_toArray, List.set_cons_zero, List.set_cons_succ, i64_w, i32_w]
        rfl
       refine take_ (i := 4) (N := some 42) (v := ?_) (a' := ?_) #[true, true, true, true, true, false, false, false, false, false, false, false, false, false] rfl rfl (by kernel_rfl) (fun _ _ _ h => h) (Or.inl ⟨by rfl, ?_⟩) hHeld ?_ ?_
       rotate_left
       ·rintro w' ⟨s0, s1⟩
        go_simp
        with_reducible rfl
       rotate_left
       ·simp only [Act.put, List.setIfInBounds_toArray, List.set_cons_zero, List.set_cons_succ, i64_w, i32_w]
        rfl
       refine pure_ (i := 5) (N := some 43) (v := ?_) (a' := ?_) #[true, true, true, true, true, true, false, false, false, false, false, false, false, false] rfl rfl (by kernel_rfl) (fun _ _ _ h => h) (Or.inl ⟨by rfl, ?_⟩) ?_ ?_
       rotate_left
       ·intro w'
        go_simp
        with_reducible rfl
       rotate_left
       ·simp only [Act.put, List.setIfInBounds_toArray, List.set_cons_zero, List.set_cons_succ, i64_w, i32_w]
        rfl
       refine pure_ (i := 6) (N := some 44) (v := ?_) (a' := ?_) #[true, true, true, true, true, true, true, false, false, false, false, false, false, false] rfl rfl (by kernel_rfl) (fun _ _ _ h => h) (Or.inl ⟨by rfl, ?_⟩) ?_ ?_
       rotate_left
       ·intro w'
        go_simp
        with_reducible rfl
       rotate_left
       ·simp only [Act.put, List.setIfInBounds_toArray, List.set_cons_zero, List.set_cons_succ, i64_w, i32_w]
        rfl
       refine take_ (i := 7) (N := some 45) (v := ?_) (a' := ?_) #[true, true, true, true, true, true, true, true, false, false, false, false, false, false] rfl rfl (by kernel_rfl) (fun _ _ _ h => h) (Or.inl ⟨by rfl, ?_⟩) hHeld ?_ ?_
       rotate_left
       ·rintro w' ⟨s0, s1⟩
        go_simp
        with_reducible rfl
       rotate_left
       ·simp only [Act.put, List.setIfInBounds_toArray, List.set_cons_zero, List.set_cons_succ, i64_w, i32_w]
        rfl
       refine pure_ (i := 8) (N := some 46) (v := ?_) (a' := ?_) #[true, true, true, true, true, true, true, true, true, false, false, false, false, false] rfl rfl (by kernel_rfl) (fun _ _ _ h => h) (Or.inl ⟨by rfl, ?_⟩) ?_ ?_
       rotate_left
       ·intro w'
        go_simp
        with_reducible rfl
       rotate_left
       ·simp only [Act.put, List.setIfInBounds_toArray, List.set_cons_zero, List.set_cons_succ, i64_w, i32_w]
        rfl
       refine pure_ (i := 9) (N := some 47) (v := ?_) (a' := ?_) #[true, true, true, true, true, true, true, true, true, true, false, false, false, false] rfl rfl (by kernel_rfl) (fun _ _ _ h => h) (Or.inl ⟨by rfl, ?_⟩) ?_ ?_
       rotate_left
       ·intro w'
        go_simp
        with_reducible rfl
       rotate_left
       ·simp only [Act.put, List.setIfInBounds_toArray, List.set_cons_zero, List.set_cons_succ, i64_w, i32_w]
        rfl
       refine one_ (i := 10) (N := some 48) #[true, true, true, true, true, true, true, true, true, true, true, false, false, false] rfl rfl (by kernel_rfl) (by decide) (fun K hK => ?_)
       refine value_ (w1 := ?_) (v := ?_) (by rfl) rfl ?_ ?_
       rotate_left 2
       ·go_simp
        constructor
        ·rfl
        ·rfl
       refine hK.out _ _ ⟨pw_cell_below (below_alloc (below_drew (Below.refl _ _)) _) q4, pw_cell_below (below_alloc (below_drew (Below.refl _ _)) _) hat⟩ (fun hHeld => ?_)
       clear hK K
       refine norm_ (a' := ?_) ?_ ?_
       rotate_left
       ·show Act.put _ (some 48) _ = _
        simp only [Act.put, List.setIfInBounds_toArray, List.set_cons_zero, List.set_cons_succ, i64_w, i32_w]
        rfl
       refine one_ (i := 11) (N := some 49) #[true, true, true, true, true, true, true, true, true, true, true, true, false, false] rfl rfl (by kernel_rfl) (by decide) (fun K hK => ?_)
       repeat rw [drew_of_alloc]
       refine Kd.R_append_step kStep (w0 := w) w.heap.size (by rfl) (.tmp 45) (.tmp 48) 103 105 (.agg #[.int .i64 0, .bool false]) 16 (by rfl) Try.underlying103 info105 rfl (by decide) (by decide) (.slice Ar row.length cr) row ⟨x0, false⟩ [.int .i64 x0, .bool false] (fun k => oki k ∨ True ∧ wr.heap.size ≤ k) (fun _ => False) (by rfl) (by rfl) ?aP (fun _ hk => hk.elim) ?aF ?aO ?aB ?aS ?aL ?_
       (case aP => exact k105_mkM _ _ _ (⟨x0, false⟩ : S105))
       (case aF => exact (fun _ hk => .inr ⟨trivial, hk⟩))
       (case aO => refine Kd.R_mono (Kd.R_below HRR.out ?_) (fun _ hk => .inl hk); (repeat (first | (with_reducible exact Below.refl _ _) | apply below_drew)))
       (case aB => (repeat (first | (with_reducible exact HA.out.low) | apply below_drew)))
       (case aS => exact HA.out.low.size)
       (case aL => exact HLN.out)
       intro v1 w1 ho hb hg hat1
       obtain ⟨A9, c9, rfl⟩ := Kd.R_slice ho
       rw [HRW.out] at hg
       obtain ⟨zc, zf⟩ := HOP.out.spot hlt zD hg
       have q43 : w1.cell? ⟨gx, 4, none⟩ = some (.slice (some ⟨g, 0, none⟩) n n) := (blk_cell (blk_grown (HA.out.below (W1 := _) zD).bx hg (Kd.R_ne HOP.out.row HA.out.bx (by decide))) 4).trans rfl
       have HA2 := zh (HA.out.append hlt HOP.out zD (by rfl) hg hb ho)
       have HR2 := zh (row_append (v1 := Value.slice A9 (row ++ [(⟨x0, false⟩ : S105)]).length c9) hlt HOP.out zD hg HR1.out)
       have zc2 : w1.cell? ⟨g, v0, none⟩ = some (.slice Ar row.length cr) := by (have h9 := zc; rw [← HRW.out] at h9; exact h9)
       clear ho hb hg hat1 zc
       refine hK.out _ _ ⟨q43, zc2⟩ (fun hHeld => ?_)
       clear hK K
       refine norm_ (a' := ?_) ?_ ?_
       rotate_left
       ·show Act.put _ (some 49) _ = _
        simp only [Act.put, List.setIfInBounds_toArray, List.set_cons_zero, List.set_cons_succ, i64_w, i32_w]
        rfl
       refine pure_ (i := 12) (N := some 50) (v := ?_) (a' := ?_) #[true, true, true, true, true, true, true, true, true, true, true, true, true, false] rfl rfl (by kernel_rfl) (fun _ _ _ h => h) (Or.inl ⟨by rfl, ?_⟩) ?_ ?_
       rotate_left
       ·intro w'
        go_simp
        with_reducible rfl
       rotate_left
       ·simp only [Act.put, List.setIfInBounds_toArray, List.set_cons_zero, List.set_cons_succ, i64_w, i32_w]
        rfl
       refine last_ (i := 13) (N := none) #[true, true, true, true, true, true, true, true, true, true, true, true, true, true] rfl rfl (by kernel_rfl) (by decide) (fun K hK => ?_)
       refine skip_ (w1 := ?_) (by rfl) rfl ?_ ?_
       rotate_left
       ·go_simp
        rfl
       refine hK.out _ _ ?_
       clear hK K
       refine done_ (by kernel_rfl) ?_
       try simp only [List.length_append, List.length_cons, List.length_nil, Nat.zero_add]
       show K9 _ _
       have hlen : ∀ p : S105, (row ++ [p]).length = row.length + 1 := fun p => by rw [List.length_append]; rfl
       have hA9 := HA2.out
       have hR9 := HR2.out
       rw [hlen] at hA9 hR9
       exact fin9 _ _ _ (zh ⟨by rw [← HE.out]; exact hA9, hR9⟩)
      ·obtain ⟨hA, hr⟩ := HK.out
       have e : j = rl.length := by omega
       subst e
       rw [List.take_length] at hA
       obtain ⟨gi, A2, c2, e2, hx2, hr2⟩ := list_at hA.inn v0 (by omega)
       subst e2
       obtain ⟨r2, hr2e⟩ : ∃ r2, r2 = ri.getD v0 [] := ⟨_, rfl⟩
       rw [← hr2e] at hx2 hr2
       have HR2E := zh hr2e
       have HJ2 : Hid (AtI w n g (.slice (some ⟨go, 0, none⟩) ro.length co) (.slice (some ⟨gi, 0, none⟩) ri.length ci) ro ri gx (w.heap.size + 1) #[.int .i64 n, .bool b, .slice A l.length c, .slice Af lf cf, .slice (some ⟨g, 0, none⟩) n n] #[.int .i64 0, .bool false, .slice none 0 0, .slice none 0 0, .slice none 0 0] (rows.set v0 (fwd rl ++ bwd (r2.take 0))) wr ∧ Kd.R (Kd.int .i64) 3 wr w.heap.size (fun _ => True) (.slice A2 r2.length c2) r2) := zh ⟨by rw [List.take_zero, show bwd [] = [] from rfl, List.append_nil]; exact hA, hr2⟩
       have i2 : (v0 : Int) < (ri.length : Int) := by omega
       clear hA hr HK hr2 hr2e
       go_wp2
       go_loopg [57] (r2.length + 1) (fun k jv W => ∃ j : Nat, j ≤ r2.length ∧ jv = .int .i64 j ∧ k = r2.length + 1 - j ∧ Hid (AtI w n g (.slice (some ⟨go, 0, none⟩) ro.length co) (.slice (some ⟨gi, 0, none⟩) ri.length ci) ro ri gx (w.heap.size + 1) #[.int .i64 n, .bool b, .slice A l.length c, .slice Af lf cf, .slice (some ⟨g, 0, none⟩) n n] #[.int .i64 0, .bool false, .slice none 0 0, .slice none 0 0, .slice none 0 0] (rows.set v0 (fwd rl ++ bwd (r2.take j))) W ∧ Kd.R (Kd.int .i64) 3 W w.heap.size (fun _ => True) (.slice A2 r2.length c2) r2))
       case atStart => exact ⟨0, Nat.zero_le _, rfl, rfl, HJ2⟩
       case round =>
        obtain ⟨j, hj, rfl, rfl, HK⟩ := hrel
        clear HJ2
        by_cases hjl : j < r2.length
        ·obtain ⟨hA, hr⟩ := HK.out
         obtain ⟨ga, ca, ea, _, _, _⟩ := Kd.R_form hr (by omega)
         injection ea with ea1 ea2 ea3
         clear ea2 ea3
         subst ea1
         obtain ⟨ce, hcl, hM, hcc, _⟩ := Kd.R_elem hr 0 (j : Int) (by omega) (by omega)
         obtain ⟨x0, hx0⟩ : ∃ x0, x0 = r2.getD j 0 := ⟨_, rfl⟩
         have hx2 : ce = [.int .i64 (r2.getD j 0)] := hM
         rw [← hx0] at hx2
         subst hx2
         have hx3 : wr.cell? ⟨ga, j, none⟩ = some (.int .i64 x0) := by
          have := hcc 0 _ rfl
          rw [Int.toNat_natCast, show (Kd.int .i64).sz = 1 from rfl, Nat.mul_one, Nat.add_zero] at this
          exact this
         have q4 : wr.cell? ⟨gx, 4, none⟩ = some (.slice (some ⟨g, 0, none⟩) n n) := (blk_cell hA.bx 4).trans rfl
         have q42 : (wr.alloc (.cells #[.int .i64 x0, .bool true] 105)).cell? ⟨gx, 4, none⟩ = some (.slice (some ⟨g, 0, none⟩) n n) := pw_cell_below (below_alloc (Below.refl _ _) _) q4
         obtain ⟨Ar, cr, oki, hop⟩ := hA.open_ v0 hlt
         obtain ⟨row, hrow⟩ : ∃ row, row = (rows.set v0 (fwd rl ++ bwd (r2.take j))).getD v0 [] := ⟨_, rfl⟩
         have hat := hop.at_
         rw [← hrow] at hat
         have hat2 : (wr.alloc (.cells #[.int .i64 x0, .bool true] 105)).cell? ⟨g, v0, none⟩ = some (.slice Ar row.length cr) := pw_cell_below (below_alloc (Below.refl _ _) _) hat
         have hfr := hop.free
         have HRR : Hid (Kd.R kStep 105 wr w.heap.size oki (.slice Ar row.length cr) row) := zh (by rw [hrow]; exact hop.row)
         have HOP := zh hop
         have HA := zh hA
         have HR1 := zh hr
         have HX := zh hx0
         have HRW := zh hrow
         have j0 : (0 : Int) ≤ (j : Int) := by omega
         have j1 : (j : Int) < (r2.length : Int) := by omega
         have HLN : Hid ((row.length + 1) * 16 ≤ 140737488355328) := zh (by
          have h7 : v0 < rows.length := by rw [HST.out.1]; exact hlt
          have h8 : row = fwd rl ++ bwd (r2.take j) := by rw [hrow, getD_set h7]
          have h9 := HL.out v0
          rw [← HRL.out, ← HR2E.out] at h9
          rw [h8, List.length_append, fwd_len, bwd_len, List.length_take]
          omega)
         clear hA hr hop hcc hM hcl HK hx0 hrow
         have HE : Hid ((rows.set v0 (fwd rl ++ bwd (r2.take j))).set v0 (row ++ [(⟨x0, true⟩ : S105)]) = rows.set v0 (fwd rl ++ bwd (r2.take (j + 1)))) := zh (by
          have h7 : v0 < rows.length := by rw [HST.out.1]; exact hlt
          rw [List.set_set, HRW.out, getD_set h7, HX.out, List.append_assoc, ← bwd_push hjl])
         go_wp2
         have HJB : Hid (r2.length ≤ 2000000) := zh (by have h9 := HL.out v0; rw [← HR2E.out] at h9; omega)
         rename_i K9 aK9
         have fin9 : ∀ (A9 : Option Addr) (c9 : Nat) (W : World), Hid (AtI w n g (.slice (some ⟨go, 0, none⟩) ro.length co) (.slice (some ⟨gi, 0, none⟩) ri.length ci) ro ri gx (w.heap.size + 1) #[.int .i64 n, .bool b, .slice A l.length c, .slice Af lf cf, .slice (some ⟨g, 0, none⟩) n n] #[.int .i64 0, .bool false, .slice none 0 0, .slice none 0 0, .slice none 0 0] (rows.set v0 (fwd rl ++ bwd (r2.take (j + 1)))) W ∧ Kd.R (Kd.int .i64) 3 W w.heap.size (fun _ => True) (.slice (some ⟨ga, 0, none⟩) r2.length c2) r2) →
           K9 { tmps := #[.agg #[.int .i64 n, .bool b, .slice A l.length c], .slice Af lf cf, .pointer (some ⟨w.heap.size, 0, none⟩), undef, .pointer (some ⟨w.heap.size + 1, 0, none⟩), .pointer (some ⟨gx, 0, none⟩), .slice (some ⟨go, 0, none⟩) n co, .slice (some ⟨gi, 0, none⟩) n ci, .int .i64 v0, undef, u10, undef, .int .i64 x0, .agg #[.int .i64 n, .bool b, .slice A l.length c], .slice Af lf cf, .agg #[.int .i64 n, .bool b, .slice A l.length c, .slice Af lf cf], .pointer (some ⟨w.heap.size, 0, none⟩), .int .i64 n, .slice (some ⟨g, 0, none⟩) n n, .agg #[.int .i64 n, .bool b, .slice A l.length c, .slice Af lf cf, .slice (some ⟨g, 0, none⟩) n n], .agg #[.int .i64 n, .bool b, .slice A l.length c], .slice (some ⟨go, 0, none⟩) n co, .agg #[.int .i64 n, .bool b, .slice A l.length c], .slice (some ⟨gi, 0, none⟩) n ci, .pointer (some ⟨w.heap.size, 0, none⟩), .int .i64 n, .int .i64 v0, .bool true, .int .i64 v0, .slice (some ⟨go, 0, none⟩) n co, .int .i64 v0, .pointer (some ⟨go, v0, none⟩), .slice A1 rl.length c1, .int .i64 rl.length, .int .i64 rl.length, .bool false, u36, u37, u38, u39, u40, u41, u42, u43, u44, u45, u46, u47, u48, u49, u50, u51, .slice (some ⟨gi, 0, none⟩) n ci, .int .i64 v0, .pointer (some ⟨gi, v0, none⟩), .slice (some ⟨ga, 0, none⟩) r2.length c2, .int .i64 r2.length, .int .i64 j, .bool true, .pointer (some ⟨ga, j, none⟩), .int .i64 x0, .pointer (some ⟨gx, 4, none⟩), .slice (some ⟨g, 0, none⟩) n n, .int .i64 v0, .pointer (some ⟨gx, 4, none⟩), .slice (some ⟨g, 0, none⟩) n n, .int .i64 v0, .pointer (some ⟨g, v0, none⟩), .slice Ar row.length cr, .int .i64 x0, .agg #[.int .i64 x0, .bool true], .slice (some ⟨wr.heap.size, 0, none⟩) 1 1, .slice A9 (row.length + 1) c9, .pointer (some ⟨g, v0, none⟩), u74, u75, u76, u77, u78, u79, u80, u81, undef], defers := [] } W := by
          intro A9 c9 W HF9
          clear hat hat2 hfr q4 q42
          refine aK9 _ _ ?_
          clear aK9 K9
          go_wp2
          go_roundg (r2.length - j)
          case rel => exact ⟨j + 1, by omega, by rw [w1n j (by have := HJB.out; omega)], by omega, HF9⟩
          case measure => omega
         refine start_ (n := 14) (S := fun w' => w'.cell? ⟨gx, 4, none⟩ = some (.slice (some ⟨g, 0, none⟩) n n) ∧ w'.cell? ⟨g, v0, none⟩ = some (.slice Ar row.length cr)) (ds := [13]) #[false, false, false, false, false, false, false, false, false, false, false, false, false, false] (by kernel_rfl) rfl rfl ⟨q4, hat⟩ (fun hHeld => ?_)
         refine pure_ (i := 0) (N := some 61) (v := ?_) (a' := ?_) #[true, false, false, false, false, false, false, false, false, false, false, false, false, false] rfl rfl (by kernel_rfl) (fun _ _ _ h => h) (Or.inl ⟨by rfl, ?_⟩) ?_ ?_
         rotate_left
         ·intro w'
          go_simp
          with_reducible rfl
         rotate_left
         ·simp only [Act.put, List.setIfInBounds_toArray, List.set_cons_zero, List.set_cons_succ, i64_w, i32_w]
          rfl
         refine take_ (i := 1) (N := some 62) (v := ?_) (a' := ?_) #[true, true, false, false, false, false, false, false, false, false, false, false, false, false] rfl rfl (by kernel_rfl) (fun _ _ _ h => h) (Or.inl ⟨by rfl, ?_⟩) hHeld ?_ ?_
         rotate_left
         ·rintro w' ⟨s0, s1⟩
          go_simp
          with_reducible rfl
         rotate_left
         ·simp only [Act.put, List.setIfInBounds_toArray, List.set_cons_zero, List.set_cons_succ, i64_w, i32_w]
          rfl
         refine pure_ (i := 2) (N := some 63) (v := ?_) (a' := ?_) #[true, true, true, false, false, false, false, false, false, false, false, false, false, false] rfl rfl (by kernel_rfl) (fun _ _ _ h => h) (Or.inl ⟨by rfl, ?_⟩) ?_ ?_
         rotate_left
         ·intro w'
          go_simp
          with_reducible rfl
         rotate_left
         ·simp only [Act.put, List.setIfInBounds_toArray, List.set_cons_zero, List.set_cons_succ, i64_w, i32_w]
          rfl
         refine pure_ (i := 3) (N := some 64) (v := ?_) (a' := ?_) #[true, true, true, true, false, false, false, false, false, false, false, false, false, false] rfl rfl (by kernel_rfl) (fun _ _ _ h => h) (Or.inl ⟨by rfl, ?_⟩) ?_ ?_
         rotate_left
         ·intro w'
          go_simp
          with_reducible rfl
         rotate_left
         ·simp only [Act.put, List.setIfInBounds_toArray, List.set_cons_zero, List.set_cons_succ, i64_w, i32_w]
          rfl
         refine take_ (i := 4) (N := some 65) (v := ?_) (a' := ?_) #[true, true, true, true, true, false, false, false, false, false, false, false, false, false] rfl rfl (by kernel_rfl) (fun _ _ _ h => h) (Or.inl ⟨by rfl, ?_⟩) hHeld ?_ ?_
         rotate_left
         ·rintro w' ⟨s0, s1⟩
          go_simp
          with_reducible rfl
         rotate_left
         ·simp only [Act.put, List.setIfInBounds_toArray, List.set_cons_zero, List.set_cons_succ, i64_w, i32_w]
          rfl
         refine pure_ (i := 5) (N := some 66) (v := ?_) (a' := ?_) #[true, true, true, true, true, true, false, false, false, false, false, false, false, false] rfl rfl (by kernel_rfl) (fun _ _ _ h => h) (Or.inl ⟨by rfl, ?_⟩) ?_ ?_
         rotate_left
         ·intro w'
          go_simp
          with_reducible rfl
         rotate_left
         ·simp only [Act.put, List.setIfInBounds_toArray, List.set_cons_zero, List.set_cons_succ, i64_w, i32_w]
          rfl
         refine pure_ (i := 6) (N := some 67) (v := ?_) (a' := ?_) #[true, true, true, true, true, true, true, false, false, false, false, false, false, false] rfl rfl (by kernel_rfl) (fun _ _ _ h => h) (Or.inl ⟨by rfl, ?_⟩) ?_ ?_
         rotate_left
         ·intro w'
          go_simp
          with_reducible rfl
         rotate_left
         ·simp only [Act.put, List.setIfInBounds_toArray, List.set_cons_zero, List.set_cons_succ, i64_w, i32_w]
          rfl
         refine take_ (i := 7) (N := some 68) (v := ?_) (a' := ?_) #[true, true, true, true, true, true, true, true, false, false, false, false, false, false] rfl rfl (by kernel_rfl) (fun _ _ _ h => h) (Or.inl ⟨by rfl, ?_⟩) hHeld ?_ ?_
         rotate_left
         ·rintro w' ⟨s0, s1⟩
          go_simp
          with_reducible rfl
         rotate_left
         ·simp only [Act.put, List.setIfInBounds_toArray, List.set_cons_zero, List.set_cons_succ, i64_w, i32_w]
          rfl
         refine pure_ (i := 8) (N := some 69) (v := ?_) (a' := ?_) #[true, true, true, true, true, true, true, true, true, false, false, false, false, false] rfl rfl (by kernel_rfl) (fun _ _ _ h => h) (Or.inl ⟨by rfl, ?_⟩) ?_ ?_
         rotate_left
         ·intro w'
          go_simp
          with_reducible rfl
         rotate_left
         ·simp only [Act.put, List.setIfInBounds_toArray, List.set_cons_zero, List.set_cons_succ, i64_w, i32_w]
          rfl
         refine pure_ (i := 9) (N := some 70) (v := ?_) (a' := ?_) #[true, true, true, true, true, true, true, true, true, true, false, false, false, false] rfl rfl (by kernel_rfl) (fun _ _ _ h => h) (Or.inl ⟨by rfl, ?_⟩) ?_ ?_
         rotate_left
         ·intro w'
          go_simp
          with_reducible rfl
         rotate_left
         ·simp only [Act.put, List.setIfInBounds_toArray, List.set_cons_zero, List.set_cons_succ, i64_w, i32_w]
          rfl
         refine one_ (i := 10) (N := some 71) #[true, true, true, true, true, true, true, true, true, true, true, false, false, false] rfl rfl (by kernel_rfl) (by decide) (fun K hK => ?_)
         refine value_ (w1 := ?_) (v := ?_) (by rfl) rfl ?_ ?_
         rotate_left 2
         ·go_simp
          constructor
          ·rfl
          ·rfl
         refine hK.out _ _ ⟨pw_cell_below (below_alloc (below_drew (Below.refl _ _)) _) q4, pw_cell_below (below_alloc (below_drew (Below.refl _ _)) _) hat⟩ (fun hHeld => ?_)
         clear hK K
         refine norm_ (a' := ?_) ?_ ?_
         rotate_left
         ·show Act.put _ (some 71) _ = _
          simp only [Act.put, List.setIfInBounds_toArray, List.set_cons_zero, List.set_cons_succ, i64_w, i32_w]
          rfl
         refine one_ (i := 11) (N := some 72) #[true, true, true, true, true, true, true, true, true, true, true, true, false, false] rfl rfl (by kernel_rfl) (by decide) (fun K hK => ?_)
         repeat rw [drew_of_alloc]
         refine Kd.R_append_step kStep (w0 := w) w.heap.size (by rfl) (.tmp 68) (.tmp 71) 103 105 (.agg #[.int .i64 0, .bool false]) 16 (by rfl) Try.underlying103 info105 rfl (by decide) (by decide) (.slice Ar row.length cr) row ⟨x0, true⟩ [.int .i64 x0, .bool true] (fun k => oki k ∨ True ∧ wr.heap.size ≤ k) (fun _ => False) (by rfl) (by rfl) ?aP (fun _ hk => hk.elim) ?aF ?aO ?aB ?aS ?aL ?_
         (case aP => exact k105_mkM _ _ _ (⟨x0, true⟩ : S105))
         (case aF => exact (fun _ hk => .inr ⟨trivial, hk⟩))
         (case aO => refine Kd.R_mono (Kd.R_below HRR.out ?_) (fun _ hk => .inl hk); (repeat (first | (with_reducible exact Below.refl _ _) | apply below_drew)))
         (case aB => (repeat (first | (with_reducible exact HA.out.low) | apply below_drew)))
         (case aS => exact HA.out.low.size)
         (case aL => exact HLN.out)
         intro v1 w1 ho hb hg hat1
         obtain ⟨A9, c9, rfl⟩ := Kd.R_slice ho
         rw [HRW.out] at hg
         obtain ⟨zc, zf⟩ := HOP.out.spot hlt zD hg
         have q43 : w1.cell? ⟨gx, 4, none⟩ = some (.slice (some ⟨g, 0, none⟩) n n) := (blk_cell (blk_grown (HA.out.below (W1 := _) zD).bx hg (Kd.R_ne HOP.out.row HA.out.bx (by decide))) 4).trans rfl
         have HA2 := zh (HA.out.append hlt HOP.out zD (by rfl) hg hb ho)
         have HR2 := zh (row_append (v1 := Value.slice A9 (row ++ [(⟨x0, true⟩ : S105)]).length c9) hlt HOP.out zD hg HR1.out)
         have zc2 : w1.cell? ⟨g, v0, none⟩ = some (.slice Ar row.length cr) := by (have h9 := zc; rw [← HRW.out] at h9; exact h9)
         clear ho hb hg hat1 zc
         refine hK.out _ _ ⟨q43, zc2⟩ (fun hHeld => ?_)
         clear hK K
         refine norm_ (a' := ?_) ?_ ?_
         rotate_left
         ·show Act.put _ (some 72) _ = _
          simp only [Act.put, List.setIfInBounds_toArray, List.set_cons_zero, List.set_cons_succ, i64_w, i32_w]
          rfl
         refine pure_ (i := 12) (N := some 73) (v := ?_) (a' := ?_) #[true, true, true, true, true, true, true, true, true, true, true, true, true, false] rfl rfl (by kernel_rfl) (fun _ _ _ h => h) (Or.inl ⟨by rfl, ?_⟩) ?_ ?_
         rotate_left
         ·intro w'
          go_simp
          with_reducible rfl
         rotate_left
         ·simp only [Act.put, List.setIfInBounds_toArray, List.set_cons_zero, List.set_cons_succ, i64_w, i32_w]
          rfl
         refine last_ (i := 13) (N := none) #[true, true, true, true, true, true, true, true, true, true, true, true, true, true] rfl rfl (by kernel_rfl) (by decide) (fun K hK => ?_)
         refine skip_ (w1 := ?_) (by rfl) rfl ?_ ?_
         rotate_left
         ·go_simp
          rfl
         refine hK.out _ _ ?_
         clear hK K
         refine done_ (by kernel_rfl) ?_
         try simp only [List.length_append, List.length_cons, List.length_nil, Nat.zero_add]
         show K9 _ _
         have hlen : ∀ p : S105, (row ++ [p]).length = row.length + 1 := fun p => by rw [List.length_append]; rfl
         have hA9 := HA2.out
         have hR9 := HR2.out
         rw [hlen] at hA9 hR9
         exact fin9 _ _ _ (zh ⟨by rw [← HE.out]; exact hA9, hR9⟩)
        ·obtain ⟨hA, _⟩ := HK.out
         have e : j = r2.length := by omega
         subst e
         rw [List.take_length] at hA
         obtain ⟨Ar, cr, oki, hop⟩ := hA.open_ v0 hlt
         have h7 : v0 < rows.length := by rw [HST.out.1]; exact hlt
         have hrw : (rows.set v0 (fwd rl ++ bwd r2)).getD v0 [] = fwd rl ++ bwd r2 := getD_set h7 _
         have hat := hop.at_
         have q4 : wr.cell? ⟨gx, 4, none⟩ = some (.slice (some ⟨g, 0, none⟩) n n) := (blk_cell hA.bx 4).trans rfl
         have hlen9 : (((fwd rl ++ bwd r2).length : Nat) : Int) ≤ 1099511627776 := by
          have h9 := HL.out v0
          rw [← HRL.out, ← HR2E.out] at h9
          rw [List.length_append, fwd_len, bwd_len]
          omega
         have HF := zh hlen9
         obtain ⟨row, hrow⟩ : ∃ row, row = (rows.set v0 (fwd rl ++ bwd r2)).getD v0 [] := ⟨_, rfl⟩
         rw [← hrow] at hat
         have HRW := zh hrow
         have HRW2 := zh (hrow.trans hrw)
         have HOP := zh hop
         have HA := zh hA
         clear hA hop HK h7 hrw hlen9 hrow
         go_wp2_with ((go_at_call 48; refine (at_sort HA.out hlt HOP.out HRW.out (by rw [HRW2.out]; exact HF.out)).mono ?_; rintro e w2 ⟨rfl, rr, hP, hA2⟩; have HA2 := zh hA2; have HP := zh (hP.trans (by rw [HRW2.out])); clear hA2 hP))
         go_roundw
         case rel => exact ⟨v0 + 1, (rows.set v0 (fwd rl ++ bwd r2)).set v0 rr, by omega, by go_num, zh ⟨HA2.out, by rw [List.set_set]; exact stage_next HST.out hlt rr (by rw [← HRL.out, ← HR2E.out]; exact HP.out)⟩⟩
         case measure => simp [intOf]; omega
    ·obtain ⟨hA, hSt⟩ := HK.out
     have q0 : wr.cell? ⟨gx, 0, none⟩ = some (.int .i64 n) := (blk_cell hA.bx 0).trans rfl
     have q1 : wr.cell? ⟨gx, 1, none⟩ = some (.bool b) := (blk_cell hA.bx 1).trans rfl
     have q2 : wr.cell? ⟨gx, 2, none⟩ = some (.slice A l.length c) := (blk_cell hA.bx 2).trans rfl
     have q3 : wr.cell? ⟨gx, 3, none⟩ = some (.slice Af lf cf) := (blk_cell hA.bx 3).trans rfl
     have q4 : wr.cell? ⟨gx, 4, none⟩ = some (.slice (some ⟨g, 0, none⟩) n n) := (blk_cell hA.bx 4).trans rfl
     have p0 : wr.cell? ⟨w.heap.size + 1, 0, none⟩ = some (.int .i64 0) := (blk_cell hA.br 0).trans rfl
     have f0 : wr.frozen? ⟨w.heap.size + 1, 0, none⟩ = false := blk_frozen hA.br 0
     have p1 : wr.cell? ⟨w.heap.size + 1, 1, none⟩ = some (.bool false) := (blk_cell hA.br 1).trans rfl
     have f1 : wr.frozen? ⟨w.heap.size + 1, 1, none⟩ = false := blk_frozen hA.br 1
     have p2 : wr.cell? ⟨w.heap.size + 1, 2, none⟩ = some (.slice none 0 0) := (blk_cell hA.br 2).trans rfl
     have f2 : wr.frozen? ⟨w.heap.size + 1, 2, none⟩ = false := blk_frozen hA.br 2
     have p3 : wr.cell? ⟨w.heap.size + 1, 3, none⟩ = some (.slice none 0 0) := (blk_cell hA.br 3).trans rfl
     have f3 : wr.frozen? ⟨w.heap.size + 1, 3, none⟩ = false := blk_frozen hA.br 3
     have p4 : wr.cell? ⟨w.heap.size + 1, 4, none⟩ = some (.slice none 0 0) := (blk_cell hA.br 4).trans rfl
     have f4 : wr.frozen? ⟨w.heap.size + 1, 4, none⟩ = false := blk_frozen hA.br 4
     have HA := zh hA
     have e : v0 = n := by omega
     have HS : Hid (Stage ro ri n n rows) := zh (by rw [e] at hSt; exact hSt)
     clear hA hSt e
     go_wp2
     (try simp only [Exit.inBlock, Exit.then])
     refine bodyPost_ret (results_cell_row rfl _ _ (w.heap.size + 1) 87 #[.int .i64 n, .bool b, .slice A l.length c, .slice Af lf cf, .slice (some ⟨g, 0, none⟩) n n] (0, 0) _ rfl (blk_put (cs := #[.int .i64 n, .bool b, .slice A l.length c, .slice Af lf cf, .slice none 0 0]) (blk_put (cs := #[.int .i64 n, .bool b, .slice A l.length c, .slice none 0 0, .slice none 0 0]) (blk_put (cs := #[.int .i64 n, .bool b, .slice none 0 0, .slice none 0 0, .slice none 0 0]) (blk_put (cs := #[.int .i64 n, .bool false, .slice none 0 0, .slice none 0 0, .slice none 0 0]) (blk_put (cs := #[.int .i64 0, .bool false, .slice none 0 0, .slice none 0 0, .slice none 0 0]) HA.out.br 0 (.int .i64 n) rfl) 1 (.bool b) rfl) 2 (.slice A l.length c) rfl) 3 (.slice Af lf cf) rfl) 4 (.slice (some ⟨g, 0, none⟩) n n) rfl) hu2 rfl (by kernel_rfl)) rfl ?_
     have hS := Kd.S_types HA.out.tab HA.out.br (by decide)
     exact ⟨g, rows, rfl, Kd.S_mono (Kd.S_far (p := ⟨w.heap.size + 1, 4, none⟩) (Kd.S_far (p := ⟨w.heap.size + 1, 3, none⟩) (Kd.S_far (p := ⟨w.heap.size + 1, 2, none⟩) (Kd.S_far (p := ⟨w.heap.size + 1, 1, none⟩) (Kd.S_far (p := ⟨w.heap.size + 1, 0, none⟩) hS (fun _ h => h.2) _) (fun _ h => h.2) _) (fun _ h => h.2) _) (fun _ h => h.2) _) (fun _ h => h.2) _) (fun _ h => h.1), HS.out, below_set (below_set (below_set (below_set (below_set HA.out.low HA.out.grl) HA.out.grl) HA.out.grl) HA.out.grl) HA.out.grl⟩
  go_region_with (first
   |(go_at_call 46; refine (leaving_walk k n b A c l ro _ ?s1 HC.out HO.out).mono ?_; (case s1 => exact Kd.C_below HR.out HI'.out.drew.low); rintro e w1 ⟨v, rfl, hS, hb⟩; have hI2 := zh (HI'.out.drew.below hb); have hgb := blk_below (blk_drew hg) hb; have u0 : w1.cell? ⟨w.heap.size, 0, none⟩ = some (.int .i64 n) := (blk_cell hgb 0).trans rfl; have u1 : w1.cell? ⟨w.heap.size, 1, none⟩ = some (.bool b) := (blk_cell hgb 1).trans rfl; have u2 : w1.cell? ⟨w.heap.size, 2, none⟩ = some (.slice A l.length c) := (blk_cell hgb 2).trans rfl; have hO2 := zh hS; clear hS hb hgb)
   |(go_at_call 47; refine (coming_walk k n b A c l ri _ ?s1 HC.out HI.out).mono ?_; (case s1 => exact Kd.C_below HR.out hI2.out.low); rintro e w2 ⟨v2, rfl, hS, hb⟩; have hI3 := zh (hI2.out.below hb); have z0 : w2.cell? ⟨w.heap.size, 0, none⟩ = some (.int .i64 n) := pw_cell_below hb u0; have hO3 := zh (Kd.S_below hO2.out hb); have hN3 := zh hS; clear hS hb))
  all_goals
   go_simp
   exact fin2 _ _ _ z0 (zh ⟨hI3.out.tab, Kd.S_lower hO3.out ((by have := HI'.out.low.size; exact this)), Kd.S_lower hN3.out (hI2.out.low.size), hI3.out.bx, hI3.out.br, hI3.out.low, hI3.out.gxl, hI3.out.grl, hI3.out.ne⟩)
 go_region_law (fail)
 all_goals
  show K0 _ _
  first
   |refine fin (w.heap.size + 1 + 1 + 1) (w.heap.size + 1 + 1) _ (zh ?_)
    exact at_pre h1 (by repeat (first | exact Below.refl _ _ | apply below_drew | apply below_alloc)) (by simp only [heap_of_alloc, heap_of_drew])
   |refine fin (w.heap.size + 1 + 1) (w.heap.size + 1 + 1 + 1) _ (zh ?_)
    exact at_pre' h1 (by repeat (first | exact Below.refl _ _ | apply below_drew | apply below_alloc)) (by simp only [heap_of_alloc, heap_of_drew])
end Go.Proofs.Ytdfagllncopmjaa.H
end
section
namespace Go.Proofs.Ytdfagllncopmjaa.Flow
def unv (n : Nat) (d : Nat → Int) : Nat := (List.range n).countP fun u => decide (d u < 0)
def upd (d : Nat → Int) (w : Nat) (x : Int) : Nat → Int := fun u => if u = w then x else d u
theorem upd_same (d : Nat → Int) (w : Nat) (x : Int) : upd d w x w = x := if_pos rfl
theorem upd_ne {d : Nat → Int} {w u : Nat} {x : Int} (h : u ≠ w) : upd d w x u = d u := if_neg h
theorem countP_upd (w : Nat) (d : Nat → Int) (x : Int) (hx : 0 ≤ x) (hd : d w < 0) : ∀ l : List Nat, l.Nodup →
  (if w ∈ l then l.countP (fun u => decide (upd d w x u < 0)) + 1 = l.countP (fun u => decide (d u < 0)) else l.countP (fun u => decide (upd d w x u < 0)) = l.countP (fun u => decide (d u < 0)))
 |[], _ => by simp
 |a :: l, h => by
  obtain ⟨ha, hl⟩ := List.nodup_cons.1 h
  have ih := countP_upd w d x hx hd l hl
  by_cases e : a = w
  ·subst e
   rw [if_neg ha] at ih
   rw [if_pos (List.mem_cons_self ..), List.countP_cons, List.countP_cons, ih, upd_same]
   rw [if_neg (by simp; omega), if_pos (by simp; omega)]
  ·have e1 : (w ∈ a :: l) ↔ w ∈ l := by simp [Ne.symm e]
   by_cases hm : w ∈ l
   ·rw [if_pos hm] at ih
    rw [if_pos (e1.2 hm), List.countP_cons, List.countP_cons, upd_ne e]
    omega
   ·rw [if_neg hm] at ih
    rw [if_neg (fun h => hm (e1.1 h)), List.countP_cons, List.countP_cons, upd_ne e]
    omega
theorem unv_upd {n w : Nat} {d : Nat → Int} {x : Int} (hw : w < n) (hx : 0 ≤ x) (hd : d w < 0) : unv n (upd d w x) + 1 = unv n d := by
 have := countP_upd w d x hx hd (List.range n) List.nodup_range
 rwa [if_pos (List.mem_range.2 hw)] at this
theorem unv_le (n : Nat) (d : Nat → Int) : unv n d ≤ n := by
 have := List.countP_le_length (p := fun u => decide (d u < 0)) (l := List.range n)
 rwa [List.length_range] at this
structure BInv (n s : Nat) (Lk : Nat → Nat → Prop) (P : Nat → Prop) (d : Nat → Int) (q : List Nat) (top : Int) : Prop where
 hs : d s = 0
 lo : ∀ u, u < n → -1 ≤ d u
 par : ∀ u, u < n → 0 ≤ d u → u = s ∨ ∃ p, p < n ∧ 0 ≤ d p ∧ d u = d p + 1 ∧ Lk p u
 nd : q.Nodup
 qn : ∀ a, a ∈ q → a < n ∧ 0 ≤ d a
 srt : q.Pairwise fun a b => d a ≤ d b
 bnd : ∀ a, a ∈ q → top ≤ d a ∧ d a ≤ top + 1
 up : ∀ u, u < n → d u ≤ top + 1
 cl : ∀ u, u < n → 0 ≤ d u → u ∈ q ∨ P u ∨ ∀ w, Lk u w → 0 ≤ d w ∧ d w ≤ d u + 1
 hi : top ≤ n
def Bf (n s : Nat) (Lk : Nat → Nat → Prop) (d : Nat → Int) : Prop :=
 d s = 0 ∧ (∀ u, u < n → -1 ≤ d u) ∧ (∀ u, u < n → 0 ≤ d u → u = s ∨ ∃ p, p < n ∧ 0 ≤ d p ∧ d u = d p + 1 ∧ Lk p u) ∧ (∀ u, u < n → 0 ≤ d u → ∀ w, Lk u w → 0 ≤ d w ∧ d w ≤ d u + 1) ∧ (∀ u, u < n → d u ≤ n)
def None_ : Nat → Prop := fun _ => False
theorem BInv.start {n s : Nat} (Lk : Nat → Nat → Prop) (hs : s < n) {d : Nat → Int} (h1 : d s = 0) (h2 : ∀ u, u < n → u ≠ s → d u = -1) : BInv n s Lk None_ d [s] 0 where
 hs := h1
 lo u hu := by
  by_cases e : u = s
  ·rw [e, h1]; decide
  ·rw [h2 u hu e]; decide
 par u hu h := by
  by_cases e : u = s
  ·exact .inl e
  ·rw [h2 u hu e] at h; exact absurd h (by decide)
 nd := by simp
 qn a ha := by
  rw [List.mem_singleton] at ha
  subst ha
  exact ⟨hs, by rw [h1]; decide⟩
 srt := by simp
 bnd a ha := by
  rw [List.mem_singleton] at ha
  subst ha
  rw [h1]
  decide
 up u hu := by
  by_cases e : u = s
  ·rw [e, h1]; decide
  ·rw [h2 u hu e]; decide
 cl u hu h := by
  by_cases e : u = s
  ·exact .inl (by simp [e])
  ·rw [h2 u hu e] at h; exact absurd h (by decide)
 hi := by omega
theorem nodup_le : ∀ {n : Nat} {q : List Nat}, q.Nodup → (∀ a, a ∈ q → a < n) → q.length ≤ n
 |0, q, _, hq => by
  cases q with
  |nil => simp
  |cons a l => exact absurd (hq a (List.mem_cons_self ..)) (Nat.not_lt_zero _)
 |n + 1, q, h, hq => by
  have h1 := nodup_le (n := n) (h.erase n) (fun a ha => by
   have h2 := (h.mem_erase_iff).1 ha
   have := hq a h2.2
   have := h2.1
   omega)
  rw [List.length_erase] at h1
  split at h1 <;> omega
theorem BInv.room {n s : Nat} {Lk : Nat → Nat → Prop} {P : Nat → Prop} {d : Nat → Int} {q : List Nat} {top : Int} (h : BInv n s Lk P d q top) {w : Nat} (hw : w < n) (hd : d w < 0) : q.length < n := by
 have h1 : (w :: q).Nodup := List.nodup_cons.2 ⟨fun hm => by have := (h.qn w hm).2; omega, h.nd⟩
 have := nodup_le h1 (fun a ha => (List.mem_cons.1 ha).elim (fun e => e ▸ hw) (fun e => (h.qn a e).1))
 rw [List.length_cons] at this
 omega
theorem BInv.len {n s : Nat} {Lk : Nat → Nat → Prop} {P : Nat → Prop} {d : Nat → Int} {q : List Nat} {top : Int} (h : BInv n s Lk P d q top) : q.length ≤ n := nodup_le h.nd (fun a ha => (h.qn a ha).1)
theorem level_lt {n s : Nat} {Lk : Nat → Nat → Prop} {d : Nat → Int} (par : ∀ u, u < n → 0 ≤ d u → u = s ∨ ∃ p, p < n ∧ 0 ≤ d p ∧ d u = d p + 1 ∧ Lk p u) (hs : d s = 0) :
  ∀ (k : Nat) (u : Nat), u < n → d u = k → ∃ l : List Nat, l.length = k + 1 ∧ l.Nodup ∧ (∀ a, a ∈ l → a < n ∧ d a ≤ k) := by
 intro k
 induction k with
 |zero => exact fun u hu e => ⟨[u], rfl, by simp, fun a ha => by rw [List.mem_singleton] at ha; subst ha; exact ⟨hu, by omega⟩⟩
 |succ k ih =>
  intro u hu e
  rcases par u hu (by omega) with rfl | ⟨p, hp, h0, h1, _⟩
  ·omega
  ·obtain ⟨l, hl, hn, ha⟩ := ih p hp (by omega)
   refine ⟨u :: l, by simp [hl], List.nodup_cons.2 ⟨fun hm => by have := (ha u hm).2; omega, hn⟩, fun a hm => ?_⟩
   rcases List.mem_cons.1 hm with rfl | hm
   ·exact ⟨hu, by omega⟩
   ·exact ⟨(ha a hm).1, by have := (ha a hm).2; omega⟩
theorem level_le {n s : Nat} {Lk : Nat → Nat → Prop} {d : Nat → Int} (par : ∀ u, u < n → 0 ≤ d u → u = s ∨ ∃ p, p < n ∧ 0 ≤ d p ∧ d u = d p + 1 ∧ Lk p u) (hs : d s = 0) {u : Nat} (hu : u < n) : d u < n := by
 by_cases h : 0 ≤ d u
 ·obtain ⟨k, hk⟩ := Int.eq_ofNat_of_zero_le h
  obtain ⟨l, hl, hn, ha⟩ := level_lt par hs k u hu hk
  have := nodup_le hn (fun a hm => (ha a hm).1)
  omega
 ·omega
theorem BInv.take {n s : Nat} {Lk : Nat → Nat → Prop} {d : Nat → Int} {a : Nat} {q : List Nat} {top : Int} (h : BInv n s Lk None_ d (a :: q) top) : BInv n s Lk (fun u => u = a) d q (d a) ∧ 0 ≤ d a ∧ a < n := by
 have ha := h.qn a (List.mem_cons_self ..)
 have hb := h.bnd a (List.mem_cons_self ..)
 have hp := List.pairwise_cons.1 h.srt
 refine ⟨⟨h.hs, h.lo, h.par, (List.nodup_cons.1 h.nd).2, fun b hm => h.qn b (List.mem_cons_of_mem _ hm), hp.2, fun b hm => ⟨hp.1 b hm, ?_⟩, fun u hu => ?_, fun u hu h0 => ?_, ?_⟩, ha.2, ha.1⟩
 ·have := (h.bnd b (List.mem_cons_of_mem _ hm)).2; omega
 ·have := h.up u hu; omega
 ·rcases h.cl u hu h0 with hm | hf | hc
  ·rcases List.mem_cons.1 hm with rfl | hm
   ·exact .inr (.inl rfl)
   ·exact .inl hm
  ·exact hf.elim
  ·exact .inr (.inr hc)
 ·have := level_le h.par h.hs ha.1; omega
theorem BInv.put {n s : Nat} {Lk : Nat → Nat → Prop} {d : Nat → Int} {v w : Nat} {q : List Nat} (h : BInv n s Lk (fun u => u = v) d q (d v)) (hv : v < n) (h0 : 0 ≤ d v) (hw : w < n) (hd : d w < 0) (hl : Lk v w) :
  BInv n s Lk (fun u => u = v) (upd d w (d v + 1)) (q ++ [w]) (upd d w (d v + 1) v) := by
 have hvw : v ≠ w := fun e => by subst e; omega
 have hsw : s ≠ w := fun e => by subst e; have := h.hs; omega
 have hq : ∀ a, a ∈ q → a ≠ w := fun a ha e => by subst e; have := (h.qn a ha).2; omega
 have hpos : ∀ u, 0 ≤ d u → 0 ≤ upd d w (d v + 1) u := fun u hu => by unfold upd; split <;> omega
 rw [upd_ne hvw]
 refine ⟨by rw [upd_ne hsw]; exact h.hs, fun u hu => ?_, fun u hu hp => ?_, ?_, fun a ha => ?_, ?_, fun a ha => ?_, fun u hu => ?_, fun u hu hp => ?_, h.hi⟩
 ·have := h.lo u hu
  unfold upd; split <;> omega
 ·by_cases e : u = w
  ·subst e
   exact .inr ⟨v, hv, by rw [upd_ne hvw]; exact h0, by rw [upd_same, upd_ne hvw], hl⟩
  ·rw [upd_ne e] at hp
   rcases h.par u hu hp with rfl | ⟨p, hpn, hp0, hp1, hpl⟩
   ·exact .inl rfl
   ·have e2 : p ≠ w := fun e => by subst e; omega
    exact .inr ⟨p, hpn, by rw [upd_ne e2]; exact hp0, by rw [upd_ne e2, upd_ne e]; exact hp1, hpl⟩
 ·rw [List.nodup_append]
  refine ⟨h.nd, by simp, fun a ha b hb => ?_⟩
  rw [List.mem_singleton] at hb
  rw [hb]
  exact hq a ha
 ·rcases List.mem_append.1 ha with ha | ha
  ·exact ⟨(h.qn a ha).1, by rw [upd_ne (hq a ha)]; exact (h.qn a ha).2⟩
  ·rw [List.mem_singleton] at ha
   subst ha
   exact ⟨hw, by rw [upd_same]; omega⟩
 ·rw [List.pairwise_append]
  refine ⟨h.srt.imp_of_mem (fun {a b} ha hb hab => by rw [upd_ne (hq a ha), upd_ne (hq b hb)]; exact hab), by simp, fun a ha b hb => ?_⟩
  rw [List.mem_singleton] at hb
  subst hb
  rw [upd_same, upd_ne (hq a ha)]
  exact (h.bnd a ha).2
 ·rcases List.mem_append.1 ha with ha | ha
  ·rw [upd_ne (hq a ha)]
   exact h.bnd a ha
  ·rw [List.mem_singleton] at ha
   subst ha
   rw [upd_same]
   omega
 ·have := h.up u hu
  unfold upd; split <;> omega
 ·by_cases e : u = w
  ·exact .inl (List.mem_append.2 (.inr (by simp [e])))
  ·rw [upd_ne e] at hp
   rcases h.cl u hu hp with hm | hf | hc
   ·exact .inl (List.mem_append.2 (.inl hm))
   ·exact .inr (.inl hf)
   ·refine .inr (.inr fun x hx => ?_)
    have h2 := hc x hx
    have h3 : x ≠ w := fun e => by subst e; omega
    rw [upd_ne h3, upd_ne e]
    exact h2
theorem BInv.close {n s : Nat} {Lk : Nat → Nat → Prop} {d : Nat → Int} {v : Nat} {q : List Nat} (h : BInv n s Lk (fun u => u = v) d q (d v)) (hn : ∀ w, Lk v w → w < n) (hc : ∀ w, Lk v w → 0 ≤ d w) : BInv n s Lk None_ d q (d v) :=
 ⟨h.hs, h.lo, h.par, h.nd, h.qn, h.srt, h.bnd, h.up, fun u hu h0 => (h.cl u hu h0).elim .inl (fun h2 => .inr (.inr (h2.elim (fun e => by subst e; exact fun w hw => ⟨hc w hw, h.up w (hn w hw)⟩) id))), h.hi⟩
theorem BInv.done {n s : Nat} {Lk : Nat → Nat → Prop} {d : Nat → Int} {top : Int} (h : BInv n s Lk None_ d [] top) : Bf n s Lk d :=
 ⟨h.hs, h.lo, h.par, fun u hu h0 => (h.cl u hu h0).elim (fun h2 => by simp at h2) (fun h2 => h2.elim (fun h3 => h3.elim) id), fun _ hu => Int.le_of_lt (level_le h.par h.hs hu)⟩
end Go.Proofs.Ytdfagllncopmjaa.Flow
end
section
namespace Go.Proofs.Ytdfagllncopmjaa.H
open Go Go.RowKit Go.Proofs.Ytdfagllncopmjaa.PrintC Go.Proofs.YtdfagllncopmjaaW.PrintWords
theorem put_state {W2 : World} {ok : Nat → Prop} {g b fr m n most y : Nat} {ring q : List Int} {x : Int} (hy : y = (fr + n) % m) (hg2 : W2.heap[g]? = some (.cells #[.slice (some ⟨b, 0, none⟩) m m, .int .i64 fr, .int .i64 ((n + 1 : Nat) : Int), .int .i64 most] 151 (0, 0)))
  (hb2 : IntBlk W2 b (ring.set y x)) (hokg : ok g) (hokb : ok b) (hbig : m ≤ 1000000) (hm : ring.length = m) (hn : n = q.length) (hlt : n < m) (hfr : fr < m) (hq : q = content ring fr n) : QSt W2 ok g (q ++ [x]) most := by
 subst hy
 have hc := content_put ring fr n x (by rw [hm]; exact hlt)
 rw [← hq, hm] at hc
 have hl : (q ++ [x]).length = n + 1 := by simp [hn]
 have hlen : (ring.set ((fr + n) % m) x).length = m := by simp [hm]
 refine ⟨ring.set ((fr + n) % m) x, fr, .slice (some ⟨b, 0, none⟩) m m, ?_, hokg, .inr ⟨b, by rw [hlen], by rw [hlen]; omega, hb2, hokb⟩, ?_, .inl (by rw [hlen]; exact hfr), by rw [hl, hlen]; omega, by rw [hlen]; exact hbig⟩
 ·rw [hl]
  exact hg2
 ·rw [hl]
  exact hc.symm
theorem put_world {w : World} {g b y n fr most : Nat} {v : Value} {ring : List Int} {x : Int} (hg : w.heap[g]? = some (.cells #[v, .int .i64 fr, .int .i64 n, .int .i64 most] 151 (0, 0))) (hb : IntBlk w b ring) (hbg : b ≠ g) :
  ((w.setCell ⟨b, y, none⟩ (.int .i64 x)).setCell ⟨g, 2, none⟩ (.int .i64 ((n : Int) + 1))).heap[g]? = some (.cells #[v, .int .i64 fr, .int .i64 ((n + 1 : Nat) : Int), .int .i64 most] 151 (0, 0)) ∧
  IntBlk ((w.setCell ⟨b, y, none⟩ (.int .i64 x)).setCell ⟨g, 2, none⟩ (.int .i64 ((n : Int) + 1))) b (ring.set y x) ∧
  Kept w ((w.setCell ⟨b, y, none⟩ (.int .i64 x)).setCell ⟨g, 2, none⟩ (.int .i64 ((n : Int) + 1))) (fun k => k = g ∨ k = b) := by
 have k0 : Kept w (w.setCell ⟨b, y, none⟩ (.int .i64 x)) (fun k => k = b) := Kept.setCell (S := fun k => k = b) (p := ⟨b, y, none⟩) (Kept.refl w _) (Or.inl rfl) _
 have k1 : Kept (w.setCell ⟨b, y, none⟩ (.int .i64 x)) ((w.setCell ⟨b, y, none⟩ (.int .i64 x)).setCell ⟨g, 2, none⟩ (.int .i64 ((n : Int) + 1))) (fun k => k = g) := Kept.setCell (S := fun k => k = g) (p := ⟨g, 2, none⟩) (Kept.refl _ _) (Or.inl rfl) _
 refine ⟨blk_set (blk_kept hg k0 (fun e => hbg e.symm)) 2 (.int .i64 ((n : Int) + 1)), (hb.set y x).kept k1 hbg, (k0.mono (fun k h => .inr h)).then_ k1 (fun k h => .inl (.inl h))⟩
set_option maxHeartbeats 1000000 in
set_option maxRecDepth 100000 in
theorem put_room (ok : Nat → Prop) (g b fr m n most : Nat) (x : Int) (q ring : List Int) (w : World) (hg : w.heap[g]? = some (.cells #[.slice (some ⟨b, 0, none⟩) m m, .int .i64 fr, .int .i64 n, .int .i64 most] 151 (0, 0)))
  (hb : IntBlk w b ring) (hm : ring.length = m) (hlt : n < m) (hfr : fr < m) (hbig : m ≤ 1000000) (hn : n = q.length) (hq : q = content ring fr n) (hokg : ok g) (hokb : ok b) (hmost : n < most) (hmb : most ≤ 65536) :
  Calls Try.prog 62 #[.pointer (some ⟨g, 0, none⟩), .int .i64 x] w fun e w' => e = .returned (.int .i64 0) ∧ QSt w' ok g (q ++ [x]) most ∧ Kept w w' ok ∧ Stay w w' := by
 obtain ⟨c0, c1, c2, c3⟩ := cells4 hg
 have y1 : (fr + n) % m < ring.length := by rw [hm]; exact Nat.mod_lt _ (by omega)
 obtain ⟨y, hy⟩ : ∃ y, y = (fr + n) % m := ⟨_, rfl⟩
 rw [← hy, hm] at y1
 have xb := hb.cell y (by rw [hm]; exact y1)
 have fb := hb.free y
 have f2 := blk_frozen hg 2
 have z1 : ((n : Int) == (most : Int)) = false := beq_eq_false_iff_ne.mpr (by omega)
 have z2 : ((n : Int) == (m : Int)) = false := beq_eq_false_iff_ne.mpr (by omega)
 have i0 : (0 : Int) ≤ (y : Int) := by omega
 have i1 : (y : Int) < (m : Int) := by omega
 have s1 : IntKind.i64.wrap ((fr : Int) + (n : Int)) = (fr : Int) + (n : Int) := IntWalk.i64_in _ (by omega)
 have s2 : ((fr : Int) + (n : Int)).tmod (m : Int) = (y : Int) := by
  rw [Int.tmod_eq_emod_of_nonneg (by omega), hy]
  exact (Int.natCast_emod (fr + n) m).symm
 have s3 : ¬ m = 0 := by omega
 have HG := Lib.hid hg
 have HB := Lib.hid hb
 have HM := Lib.hid hm
 have HN := Lib.hid hn
 have HQ := Lib.hid hq
 have HY := Lib.hid hy
 have hbg := blk_apart hb hg (by decide)
 have hgb : g ≠ b := fun e => hbg e.symm
 clear hg hb hm hn hq hy
 go_enter Try.func62, Try.ntmps62
 go_wp2
 go_region_held3 (fun w' => w'.cell? ⟨g, 2, none⟩ = some (.int .i64 n) ∧ w'.cell? ⟨g, 3, none⟩ = some (.int .i64 most)) (go_keep) (fail)
 go_wp2
 go_region_held3 (fun w' => w'.cell? ⟨g, 2, none⟩ = some (.int .i64 n) ∧ w'.cell? ⟨g, 0, none⟩ = some (.slice (some ⟨b, 0, none⟩) m m)) (go_keep) (fail)
 go_wp2
 go_region_held3 (fun w' => w'.cell? ⟨g, 0, none⟩ = some (.slice (some ⟨b, 0, none⟩) m m) ∧ w'.cell? ⟨g, 1, none⟩ = some (.int .i64 fr) ∧ w'.cell? ⟨g, 2, none⟩ = some (.int .i64 n)) (go_keep) (fail)
 go_wp2
 go_ret
 obtain ⟨u1, u2, u3⟩ := put_world (y := y) (x := x) HG.out HB.out hbg
 have hst := put_state HY.out u1 u2 hokg hokb hbig HM.out HN.out hlt hfr HQ.out
 exact ⟨rfl, hst, u3.mono (fun k h => h.elim (fun e => e ▸ hokg) (fun e => e ▸ hokb)), rfl, rfl, rfl⟩
set_option maxHeartbeats 1000000 in
set_option maxRecDepth 100000 in
theorem put_grow (ok : Nat → Prop) (g fr m most : Nat) (x : Int) (q ring : List Int) (v : Value) (w : World) (hg : w.heap[g]? = some (.cells #[v, .int .i64 fr, .int .i64 m, .int .i64 most] 151 (0, 0)))
  (hR : RingAt w ok v ring) (hq : q = content ring fr m) (hfr : fr < ring.length ∨ ring = [] ∧ fr = 0) (hm : ring.length = m) (hokg : ok g) (hok : ∀ k, w.heap.size ≤ k → ok k) (hmost : m < most) (hmb : most ≤ 65536) :
  Calls Try.prog 62 #[.pointer (some ⟨g, 0, none⟩), .int .i64 x] w fun e w' => e = .returned (.int .i64 0) ∧ QSt w' ok g (q ++ [x]) most ∧ Kept w w' ok ∧ Stay w w' := by
 have hql : q.length = m := by rw [hq, content_len]
 have hR' : RingAt w (fun _ => True) v ring := by
  rcases hR with h | ⟨b, h1, h2, h3, _⟩
  ·exact .inl h
  ·exact .inr ⟨b, h1, h2, h3, trivial⟩
 have hgrow : ∀ W : World, Kept w W (fun _ => False) → W.heap.size = w.heap.size → Stay w W → Calls Try.prog 85 #[.pointer (some ⟨g, 0, none⟩)] W fun e w' => e = .returned (.tuple #[]) ∧
   w'.heap[g]? = some (.cells #[.slice (some ⟨w.heap.size, 0, none⟩) (2 * m + 4) (2 * m + 4), .int .i64 0, .int .i64 m, .int .i64 most] 151 (0, 0)) ∧
   IntBlk w' w.heap.size (q ++ List.replicate (m + 4) 0) ∧ Kept w w' (fun k => k = g) ∧ Stay w w' := fun W hk hs hst => by
  have hgW := blk_kept hg hk (fun h => h)
  have hRW : RingAt W (fun _ => True) v ring := hR'.kept hk (fun _ _ h => h)
  have := grow_walk g fr m most q ring v W hgW hRW hq hfr hm (by omega)
  rw [hs] at this
  exact this.mono fun e w' ⟨h1, h2, h3, h4, h5⟩ => ⟨h1, h2, h3, (hk.mono (fun _ h => h.elim)).then_ h4 (fun k h => .inl h), hst.then_ h5⟩
 obtain ⟨A, hA⟩ : ∃ A : Option Addr, v = .slice A m m := by
  rcases hR with ⟨h1, h2⟩ | ⟨b, h1, _⟩
  ·subst h1
   exact ⟨none, by rw [h2, ← hm]; rfl⟩
  ·exact ⟨_, by rw [h1, hm]⟩
 subst hA
 obtain ⟨c0, c1, c2, c3⟩ := cells4 hg
 have z1 : ((m : Int) == (most : Int)) = false := beq_eq_false_iff_ne.mpr (by omega)
 have z2 : ((m : Int) == (m : Int)) = true := beq_self_eq_true _
 have i0 : (0 : Int) ≤ (m : Int) := by omega
 have i1 : (m : Int) < 2 * (m : Int) + 4 := by omega
 have s1 : IntKind.i64.wrap (0 + (m : Int)) = (m : Int) := by rw [Int.zero_add]; exact IntWalk.i64_in _ (by omega)
 have s2 : ((m : Int)).tmod (2 * (m : Int) + 4) = (m : Int) := Int.tmod_eq_of_lt (by omega) (by omega)
 have s3 : ¬ 2 * (m : Int) + 4 = 0 := by omega
 have HW := Lib.hid hgrow
 have HL := Lib.hid hql
 have HZ := Lib.hid hg
 obtain ⟨gb, hgb⟩ : ∃ gb, gb = w.heap.size := ⟨_, rfl⟩
 rw [← hgb] at HW
 have hglt : g < w.heap.size := blk_lt hg
 have hne1 : gb ≠ g := by omega
 have hne2 : g ≠ gb := by omega
 clear hgrow hql hg hR hR' hq hfr hm hglt
 have HGB := Lib.hid hgb
 clear hgb
 go_enter Try.func62, Try.ntmps62
 go_wp2
 go_region_held3 (fun w' => w'.cell? ⟨g, 2, none⟩ = some (.int .i64 m) ∧ w'.cell? ⟨g, 3, none⟩ = some (.int .i64 most)) (go_keep) (fail)
 go_wp2
 go_region_held3 (fun w' => w'.cell? ⟨g, 2, none⟩ = some (.int .i64 m) ∧ w'.cell? ⟨g, 0, none⟩ = some (.slice A m m)) (go_keep) (fail)
 have s0 : IntKind.i64.wrap (m : Int) = (m : Int) := IntWalk.i64_in _ (by omega)
 go_wp2_with (go_at_call 85; refine (HW.out _ ?s1 ?s2 ?s4).mono ?_; (case s4 => exact ⟨rfl, rfl, rfl⟩); (case s1 => repeat (first | exact Kept.refl _ _ | apply Kept.drew | apply Kept.drewN)); (case s2 => exact HGB.out.symm); rintro e w1 ⟨rfl, h1, h2, h3, h4⟩; have H4 := Lib.hid h4; clear h4; have H1 := Lib.hid h1; have H2 := Lib.hid h2; have H3 := Lib.hid h3; clear h3; have xb := h2.cell m (by rw [List.length_append, List.length_replicate, HL.out]; omega); have fb := h2.free m; have f2 := blk_frozen h1 2; obtain ⟨d0, d1, d2, _⟩ := cells4 h1; clear h1 h2)
 go_region_held3 (fun w' => w'.cell? ⟨g, 0, none⟩ = some (.slice (some ⟨gb, 0, none⟩) (2 * m + 4) (2 * m + 4)) ∧ w'.cell? ⟨g, 1, none⟩ = some (.int .i64 0) ∧ w'.cell? ⟨g, 2, none⟩ = some (.int .i64 m)) (go_keep) (fail)
 go_wp2
 go_ret
 obtain ⟨u1, u2, u3⟩ := put_world (y := m) (x := x) (fr := 0) H1.out H2.out hne1
 have hst := put_state (y := m) (fr := 0) (m := 2 * m + 4) (q := q) (by rw [Nat.zero_add, Nat.mod_eq_of_lt (by omega)]) u1 u2 hokg (hok gb (by rw [HGB.out]; exact Nat.le_refl _)) (by omega) (by rw [List.length_append, List.length_replicate, HL.out]; omega) HL.out.symm (by omega) (by omega) (by have := content_grow q (m + 4); rw [HL.out] at this; exact this.symm)
 exact ⟨rfl, hst, (H3.out.mono (fun k (e : k = g) => e ▸ hokg)).then_ u3 (fun k h => h.elim (fun e => .inl (e ▸ hokg)) (fun e => .inl (e ▸ hok gb (by rw [HGB.out]; exact Nat.le_refl _)))), H4.out⟩
theorem put_full (ok : Nat → Prop) (g most : Nat) (x : Int) (q : List Int) (w : World) (hq : QSt w ok g q most) (hf : q.length = most) :
  Calls Try.prog 62 #[.pointer (some ⟨g, 0, none⟩), .int .i64 x] w fun e w' => e = .returned (.int .i64 20) ∧ QSt w' ok g q most ∧ Kept w w' ok ∧ Stay w w' := by
 have HQ := Lib.hid hq
 obtain ⟨ring, fr, v, hg, _⟩ := hq
 rw [hf] at hg
 obtain ⟨_, _, c2, c3⟩ := cells4 hg
 clear hg hf
 have z1 : ((most : Int) == (most : Int)) = true := beq_self_eq_true _
 go_enter Try.func62, Try.ntmps62
 go_wp2
 go_region_held3 (fun w' => w'.cell? ⟨g, 2, none⟩ = some (.int .i64 most) ∧ w'.cell? ⟨g, 3, none⟩ = some (.int .i64 most)) (go_keep) (fail)
 go_wp2
 go_ret
 exact ⟨rfl, HQ.out, Kept.refl _ _, rfl, rfl, rfl⟩
def putF (q : List Int) (most : Nat) (x : Int) : List Int := if q.length = most then q else q ++ [x]
theorem put_walk (ok : Nat → Prop) (g most : Nat) (x : Int) (q : List Int) (w : World) (hq : QSt w ok g q most) (hok : ∀ k, w.heap.size ≤ k → ok k) (hle : q.length ≤ most) (hmb : most ≤ 65536) :
  Calls Try.prog 62 #[.pointer (some ⟨g, 0, none⟩), .int .i64 x] w fun e w' => (∃ c, e = .returned (.int .i64 c)) ∧ QSt w' ok g (putF q most x) most ∧ Kept w w' ok ∧ Stay w w' := by
 unfold putF
 by_cases hf : q.length = most
 ·rw [if_pos hf]
  exact (put_full ok g most x q w hq hf).mono fun e w' ⟨h1, h2⟩ => ⟨⟨_, h1⟩, h2⟩
 ·rw [if_neg hf]
  obtain ⟨ring, fr, v, hg, hokg, hR, hqc, hfr, hl, hbig⟩ := hq
  by_cases hm : q.length = ring.length
  ·rw [hm] at hg hqc
   exact (put_grow ok g fr ring.length most x q ring v w hg hR hqc hfr rfl hokg hok (by omega) hmb).mono fun e w' ⟨h1, h2⟩ => ⟨⟨_, h1⟩, h2⟩
  ·rcases hR with ⟨e1, _⟩ | ⟨b, rfl, h0, hb, hokb⟩
   ·exfalso
    rw [e1] at hm hl
    have : q.length = 0 := Nat.le_zero.1 hl
    exact hm this
   ·have hfr' : fr < ring.length := hfr.resolve_right (by rintro ⟨e, _⟩; rw [e] at h0; simp at h0)
    exact (put_room ok g b fr ring.length q.length most x q ring w hg hb rfl (by omega) hfr' hbig rfl hqc hokg hokb (by omega) hmb).mono fun e w' ⟨h1, h2⟩ => ⟨⟨_, h1⟩, h2⟩
end Go.Proofs.Ytdfagllncopmjaa.H
end
section
namespace Go.Proofs.Ytdfagllncopmjaa.Flow
open Go.RowKit Go.Proofs.Ytdfagllncopmjaa.H Go.Proofs.Ytdfagllncopmjaa.PrintC Go.Proofs.YtdfagllncopmjaaW.PrintWords Go.Proofs.YtdfagllncopmjaaW.PrintLast
def places (e : Nat → Int) (i : Nat) (v : Int) : List Int := ((List.range i).filter fun j => decide (e j = v)).map fun (j : Nat) => (j : Int)
def adjU (e : Nat → Int) (n i : Nat) : List (List Int) := (List.range n).map fun (v : Nat) => places e i (v : Int)
theorem places_succ (e : Nat → Int) (i : Nat) (v : Int) : places e (i + 1) v = places e i v ++ (if e i = v then [(i : Int)] else []) := by
 unfold places
 rw [List.range_succ, List.filter_append, List.map_append]
 congr 1
 by_cases h : e i = v <;> simp [h]
theorem places_len (e : Nat → Int) (i : Nat) (v : Int) : (places e i v).length ≤ i := by
 unfold places
 rw [List.length_map]
 have := List.length_filter_le (fun j => decide (e j = v)) (List.range i)
 simpa using this
theorem adjU_len (e : Nat → Int) (n i : Nat) : (adjU e n i).length = n := by simp [adjU]
theorem adjU_at (e : Nat → Int) (n i v : Nat) (h : v < n) : (adjU e n i).getD v [] = places e i (v : Int) := by simp [adjU, h]
theorem adjU_set (e : Nat → Int) (n i t : Nat) (ht : t < n) (he : e i = (t : Int)) : (adjU e n i).set t ((adjU e n i).getD t [] ++ [(i : Int)]) = adjU e n (i + 1) := by
 apply List.ext_getElem
 ·simp [adjU]
 ·intro v h1 h2
  have hv : v < n := by simpa [adjU] using h2
  have e2 : (adjU e n (i + 1))[v]'h2 = places e (i + 1) (v : Int) := by simp [adjU]
  have e3 : (adjU e n i)[v]'(by rw [adjU_len]; exact hv) = places e i (v : Int) := by simp [adjU]
  have e4 := adjU_at e n i t ht
  rw [List.getElem_set, e2, places_succ, he, e3, e4]
  by_cases h : t = v
  ·subst h
   rw [if_pos rfl, if_pos rfl]
  ·rw [if_neg h, if_neg (by omega), List.append_nil]
theorem adjU_zero (e : Nat → Int) (n : Nat) : adjU e n 0 = List.replicate n [] := by
 apply List.ext_getElem
 ·simp [adjU]
 ·intro v h1 h2
  simp [adjU, places]
abbrev Arc := S48
def arcAt (l : List Arc) (i : Nat) : Arc := rd_T48 l (i : Int)
def frOf (l : List Arc) (i : Nat) : Int := (arcAt l i).f0
def toOf (l : List Arc) (i : Nat) : Int := (arcAt l i).f1
def capOf (l : List Arc) (i : Nat) : Int := (arcAt l i).f2
theorem wrap1 (i : Nat) (h : i ≤ 4611686018427387904) : wrap64 ((i : Int) + 1) = ((i + 1 : Nat) : Int) := by
 unfold wrap64
 omega
theorem listsF_go (l : List Arc) (n : Nat) (hl : l.length ≤ 1000000) (he : ∀ i, i < l.length → 0 ≤ frOf l i ∧ frOf l i < n) : ∀ (d i : Nat), i + d = l.length →
  Ev (fun k => PrintLF.adj_lists.l0 k (adjU (frOf l) n i) l (l.length : Int) (i : Int)) (adjU (frOf l) n l.length)
 |0, i, hi => by
  have : i = l.length := by omega
  subst this
  refine Ev.step (f := fun _ => _) (fun k => ?_) (Ev.now _)
  simp only [PrintLF.adj_lists.l0]
  rw [if_neg (by omega)]
 |d + 1, i, hi => by
  obtain ⟨h0, h1⟩ := he i (by omega)
  obtain ⟨t, ht⟩ : ∃ t : Nat, frOf l i = (t : Int) := ⟨(frOf l i).toNat, by omega⟩
  have htn : t < n := by omega
  have hlen := places_len (frOf l) i (t : Int)
  have hset := adjU_set (frOf l) n i t htn ht
  refine Ev.step (fun k => ?_) (listsF_go l n hl he d (i + 1) (by omega))
  simp only [PrintLF.adj_lists.l0]
  have e0 : adj_from.f (rd_T48 l (i : Int)).f0 (rd_T48 l (i : Int)).f1 (rd_T48 l (i : Int)).f2 (rd_T48 l (i : Int)).f3 = some (t : Int) := by rw [← ht]; rfl
  have e1 : PrintLF.rd_L2 (adjU (frOf l) n i) (t : Int) = (adjU (frOf l) n i).getD t [] := by unfold PrintLF.rd_L2; rw [Int.toNat_natCast]
  rw [if_pos (by omega), if_pos (by omega), if_pos (by omega), e0, Option.bind_some, if_pos (by omega), if_pos (by rw [adjU_len]; omega), e1, if_pos (by rw [adjU_at _ _ _ _ htn]; omega), Int.toNat_natCast, hset, wrap1 i (by omega)]
theorem leaving_f (b : Bool) (l : List Arc) (n : Nat) (hn : n ≤ 1000000) (hl : l.length ≤ 1000000) (he : ∀ i, i < l.length → 0 ≤ frOf l i ∧ frOf l i < n) :
  ∃ k, PrintLF.adj_lists.f k (n : Int) b l = some (adjU (frOf l) n l.length) := by
 refine Ev.rounds (g := fun k => PrintLF.adj_lists.f k (n : Int) b l) (Ev.congr (fun k => ?_) (listsF_go l n hl he l.length 0 (by omega)))
 unfold PrintLF.adj_lists.f
 rw [if_pos (by omega), if_pos (by omega), Int.toNat_natCast, adjU_zero]
 rfl
theorem listsT_go (l : List Arc) (n : Nat) (hl : l.length ≤ 1000000) (he : ∀ i, i < l.length → 0 ≤ toOf l i ∧ toOf l i < n) : ∀ (d i : Nat), i + d = l.length →
  Ev (fun k => PrintLT.adj_lists.l0 k (adjU (toOf l) n i) l (l.length : Int) (i : Int)) (adjU (toOf l) n l.length)
 |0, i, hi => by
  have : i = l.length := by omega
  subst this
  refine Ev.step (f := fun _ => _) (fun k => ?_) (Ev.now _)
  simp only [PrintLT.adj_lists.l0]
  rw [if_neg (by omega)]
 |d + 1, i, hi => by
  obtain ⟨h0, h1⟩ := he i (by omega)
  obtain ⟨t, ht⟩ : ∃ t : Nat, toOf l i = (t : Int) := ⟨(toOf l i).toNat, by omega⟩
  have htn : t < n := by omega
  have hlen := places_len (toOf l) i (t : Int)
  have hset := adjU_set (toOf l) n i t htn ht
  refine Ev.step (fun k => ?_) (listsT_go l n hl he d (i + 1) (by omega))
  simp only [PrintLT.adj_lists.l0]
  have e0 : adj_to.f (rd_T48 l (i : Int)).f0 (rd_T48 l (i : Int)).f1 (rd_T48 l (i : Int)).f2 (rd_T48 l (i : Int)).f3 = some (t : Int) := by rw [← ht]; rfl
  have e1 : PrintLT.rd_L2 (adjU (toOf l) n i) (t : Int) = (adjU (toOf l) n i).getD t [] := by unfold PrintLT.rd_L2; rw [Int.toNat_natCast]
  rw [if_pos (by omega), if_pos (by omega), if_pos (by omega), e0, Option.bind_some, if_pos (by omega), if_pos (by rw [adjU_len]; omega), e1, if_pos (by rw [adjU_at _ _ _ _ htn]; omega), Int.toNat_natCast, hset, wrap1 i (by omega)]
theorem coming_f (b : Bool) (l : List Arc) (n : Nat) (hn : n ≤ 1000000) (hl : l.length ≤ 1000000) (he : ∀ i, i < l.length → 0 ≤ toOf l i ∧ toOf l i < n) :
  ∃ k, PrintLT.adj_lists.f k (n : Int) b l = some (adjU (toOf l) n l.length) := by
 refine Ev.rounds (g := fun k => PrintLT.adj_lists.f k (n : Int) b l) (Ev.congr (fun k => ?_) (listsT_go l n hl he l.length 0 (by omega)))
 unfold PrintLT.adj_lists.f
 rw [if_pos (by omega), if_pos (by omega), Int.toNat_natCast, adjU_zero]
 rfl
end Go.Proofs.Ytdfagllncopmjaa.Flow
end
section
namespace Go.Proofs.Ytdfagllncopmjaa.Flow
def sumN : Nat → (Nat → Int) → Int
 |0, _ => 0
 |n + 1, g => sumN n g + g n
theorem sumN_congr : ∀ (n : Nat) {g h : Nat → Int}, (∀ i, i < n → g i = h i) → sumN n g = sumN n h
 |0, _, _, _ => rfl
 |n + 1, g, h, e => by rw [sumN, sumN, sumN_congr n (fun i hi => e i (by omega)), e n (by omega)]
theorem sumN_add : ∀ (n : Nat) (g h : Nat → Int), sumN n (fun i => g i + h i) = sumN n g + sumN n h
 |0, _, _ => rfl
 |n + 1, g, h => by rw [sumN, sumN, sumN, sumN_add n g h]; omega
theorem sumN_sub : ∀ (n : Nat) (g h : Nat → Int), sumN n (fun i => g i - h i) = sumN n g - sumN n h
 |0, _, _ => rfl
 |n + 1, g, h => by rw [sumN, sumN, sumN, sumN_sub n g h]; omega
theorem sumN_zero : ∀ (n : Nat) {g : Nat → Int}, (∀ i, i < n → g i = 0) → sumN n g = 0
 |0, _, _ => rfl
 |n + 1, g, e => by rw [sumN, sumN_zero n (fun i hi => e i (by omega)), e n (by omega)]; rfl
theorem sumN_le : ∀ (n : Nat) {g h : Nat → Int}, (∀ i, i < n → g i ≤ h i) → sumN n g ≤ sumN n h
 |0, _, _, _ => Int.le_refl _
 |n + 1, g, h, e => by
  have h1 := sumN_le n (fun i hi => e i (by omega))
  have h2 := e n (by omega)
  rw [sumN, sumN]
  omega
theorem sumN_nonneg (n : Nat) {g : Nat → Int} (e : ∀ i, i < n → 0 ≤ g i) : 0 ≤ sumN n g := by
 have := sumN_le n (g := fun _ => 0) (h := g) e
 rw [sumN_zero n (fun _ _ => rfl)] at this
 exact this
theorem sumN_eq : ∀ (n : Nat) {g h : Nat → Int}, (∀ i, i < n → g i ≤ h i) → sumN n h ≤ sumN n g → ∀ i, i < n → g i = h i
 |0, _, _, _, _, i, hi => by omega
 |n + 1, g, h, e, hs, i, hi => by
  have h1 := sumN_le n (fun i hi => e i (by omega))
  have h2 := e n (by omega)
  rw [sumN, sumN] at hs
  by_cases hn : i = n
  ·subst hn
   omega
  ·exact sumN_eq n (fun i hi => e i (by omega)) (by omega) i (by omega)
theorem sumN_swap (n : Nat) : ∀ (m : Nat) (g : Nat → Nat → Int), sumN n (fun v => sumN m (fun i => g v i)) = sumN m (fun i => sumN n (fun v => g v i))
 |0, g => sumN_zero n (fun _ _ => rfl)
 |m + 1, g => by
  rw [sumN, ← sumN_swap n m g, ← sumN_add]
  rfl
theorem sumN_one : ∀ (n : Nat) (a : Int) (S : Int → Bool) (x : Int), 0 ≤ a → a < n → sumN n (fun v => if S v = true then (if a = (v : Int) then x else 0) else 0) = if S a = true then x else 0
 |0, a, S, x, h0, h1 => by omega
 |n + 1, a, S, x, h0, h1 => by
  rw [sumN]
  by_cases h : a = (n : Int)
  ·have hz : sumN n (fun v => if S v = true then (if a = (v : Int) then x else 0) else 0) = 0 := sumN_zero n (fun i hi => by
    rw [if_neg (by omega : ¬ a = (i : Int))]
    split <;> rfl)
   rw [hz, if_pos h, h]
   split <;> omega
  ·rw [sumN_one n a S x h0 (by omega), if_neg h]
   split <;> split <;> omega
theorem sumN_mul_le (n : Nat) (g : Nat → Int) (c : Int) (h : ∀ i, i < n → g i ≤ c) : sumN n g ≤ n * c := by
 induction n with
 |zero => simp [sumN]
 |succ n ih =>
  have h1 := ih (fun i hi => h i (by omega))
  have h2 := h n (by omega)
  rw [sumN, Int.natCast_add, Int.add_mul]
  simp
  omega
section
variable (m : Nat) (fr tv : Nat → Int)
def leaves (f : Nat → Int) (v : Int) : Int := sumN m fun i => (if fr i = v then f i else 0) - (if tv i = v then f i else 0)
def cross (f : Nat → Int) (S : Int → Bool) : Int := sumN m fun i => (if S (fr i) = true ∧ S (tv i) = false then f i else 0) - (if S (fr i) = false ∧ S (tv i) = true then f i else 0)
def takes (cap : Nat → Int) (S : Int → Bool) : Int := sumN m fun i => if S (fr i) = true ∧ S (tv i) = false then cap i else 0
def Ends (n : Nat) : Prop := ∀ i, i < m → (0 ≤ fr i ∧ fr i < n) ∧ (0 ≤ tv i ∧ tv i < n)
def Within (cap f : Nat → Int) : Prop := ∀ i, i < m → 0 ≤ f i ∧ f i ≤ cap i
def Bal (n : Nat) (s t : Int) (f : Nat → Int) : Prop := ∀ v : Nat, v < n → (v : Int) ≠ s → (v : Int) ≠ t → leaves m fr tv f v = 0
def Closed (cap f : Nat → Int) (S : Int → Bool) : Prop := ∀ i, i < m → (S (fr i) = true → f i < cap i → S (tv i) = true) ∧ (S (tv i) = true → 0 < f i → S (fr i) = true)
end
section
variable {m : Nat} {fr tv : Nat → Int}
theorem cross_eq {n : Nat} (he : Ends m fr tv n) (f : Nat → Int) (S : Int → Bool) : sumN n (fun v => if S v = true then leaves m fr tv f v else 0) = cross m fr tv f S := by
 have h1 : sumN n (fun v => if S v = true then leaves m fr tv f v else 0) = sumN n (fun v => sumN m (fun i => if S v = true then ((if fr i = (v : Int) then f i else 0) - (if tv i = (v : Int) then f i else 0)) else 0)) := by
  refine sumN_congr n (fun v hv => ?_)
  by_cases h : S v = true
  ·rw [if_pos h]
   exact sumN_congr m (fun i hi => by rw [if_pos h])
  ·rw [if_neg h]
   exact (sumN_zero m (fun i hi => by rw [if_neg h])).symm
 rw [h1, sumN_swap]
 refine sumN_congr m (fun i hi => ?_)
 obtain ⟨⟨a0, a1⟩, b0, b1⟩ := he i hi
 have h2 : sumN n (fun v => if S v = true then ((if fr i = (v : Int) then f i else 0) - (if tv i = (v : Int) then f i else 0)) else 0) = sumN n (fun v => (if S v = true then (if fr i = (v : Int) then f i else 0) else 0) - (if S v = true then (if tv i = (v : Int) then f i else 0) else 0)) := by
  refine sumN_congr n (fun v hv => ?_)
  by_cases h : S v = true
  ·rw [if_pos h, if_pos h, if_pos h]
  ·rw [if_neg h, if_neg h, if_neg h]
   rfl
 rw [h2, sumN_sub, sumN_one n _ S _ a0 a1, sumN_one n _ S _ b0 b1]
 cases S (fr i) <;> cases S (tv i) <;> simp
theorem value_cross {n : Nat} (he : Ends m fr tv n) {s t : Int} {f : Nat → Int} (hb : Bal m fr tv n s t f) (hs : 0 ≤ s ∧ s < n) {S : Int → Bool} (h1 : S s = true) (h2 : S t = false) : leaves m fr tv f s = cross m fr tv f S := by
 rw [← cross_eq he]
 have h3 : sumN n (fun v => if S v = true then leaves m fr tv f v else 0) = sumN n (fun v => if S v = true then (if s = (v : Int) then leaves m fr tv f s else 0) else 0) := by
  refine sumN_congr n (fun v hv => ?_)
  by_cases h : S v = true
  ·rw [if_pos h, if_pos h]
   by_cases e : s = (v : Int)
   ·rw [if_pos e, e]
   ·rw [if_neg e]
    refine hb v hv (fun e2 => e e2.symm) (fun e2 => ?_)
    rw [e2, h2] at h
    exact absurd h (by decide)
  ·rw [if_neg h, if_neg h]
 rw [h3, sumN_one n s S _ hs.1 hs.2, if_pos h1]
theorem cross_le {cap f : Nat → Int} (hf : Within m cap f) (S : Int → Bool) : cross m fr tv f S ≤ takes m fr tv cap S := by
 refine sumN_le m (fun i hi => ?_)
 obtain ⟨h0, h1⟩ := hf i hi
 cases S (fr i) <;> cases S (tv i) <;> simp <;> omega
theorem cross_closed {cap f : Nat → Int} (hf : Within m cap f) {S : Int → Bool} (hc : Closed m fr tv cap f S) : cross m fr tv f S = takes m fr tv cap S := by
 refine sumN_congr m (fun i hi => ?_)
 obtain ⟨h0, h1⟩ := hf i hi
 obtain ⟨c1, c2⟩ := hc i hi
 cases h2 : S (fr i) <;> cases h3 : S (tv i) <;> simp [h2, h3] at c1 c2 ⊢ <;> omega
theorem value_le {n : Nat} (he : Ends m fr tv n) {s t : Int} {cap f : Nat → Int} (hf : Within m cap f) (hb : Bal m fr tv n s t f) (hs : 0 ≤ s ∧ s < n) {S : Int → Bool} (h1 : S s = true) (h2 : S t = false) : leaves m fr tv f s ≤ takes m fr tv cap S := by
 rw [value_cross he hb hs h1 h2]
 exact cross_le hf S
theorem value_eq {n : Nat} (he : Ends m fr tv n) {s t : Int} {cap f : Nat → Int} (hf : Within m cap f) (hb : Bal m fr tv n s t f) (hs : 0 ≤ s ∧ s < n) {S : Int → Bool} (hc : Closed m fr tv cap f S) (h1 : S s = true) (h2 : S t = false) : leaves m fr tv f s = takes m fr tv cap S := by
 rw [value_cross he hb hs h1 h2]
 exact cross_closed hf hc
def Top (m : Nat) (fr tv : Nat → Int) (n : Nat) (s t : Int) (cap f : Nat → Int) (S : Int → Bool) : Prop := Within m cap f ∧ Bal m fr tv n s t f ∧ Closed m fr tv cap f S ∧ S s = true ∧ S t = false
theorem top_most {n : Nat} (he : Ends m fr tv n) {s t : Int} {cap f g : Nat → Int} {S : Int → Bool} (hs : 0 ≤ s ∧ s < n) (h : Top m fr tv n s t cap f S) (hg : Within m cap g) (hb : Bal m fr tv n s t g) : leaves m fr tv g s ≤ leaves m fr tv f s := by
 obtain ⟨a, b, c, d, e⟩ := h
 rw [value_eq he a b hs c d e]
 exact value_le he hg hb hs d e
theorem top_value {n : Nat} (he : Ends m fr tv n) {s t : Int} {cap f g : Nat → Int} {S T : Int → Bool} (hs : 0 ≤ s ∧ s < n) (h : Top m fr tv n s t cap f S) (k : Top m fr tv n s t cap g T) : leaves m fr tv g s = leaves m fr tv f s :=
 Int.le_antisymm (top_most he hs h k.1 k.2.1) (top_most he hs k h.1 h.2.1)
theorem top_closed {n : Nat} (he : Ends m fr tv n) {s t : Int} {cap f g : Nat → Int} {S T : Int → Bool} (hs : 0 ≤ s ∧ s < n) (h : Top m fr tv n s t cap f S) (k : Top m fr tv n s t cap g T) : Closed m fr tv cap f T := by
 have hv := top_value he hs h k
 obtain ⟨a, b, c, d, e⟩ := h
 obtain ⟨a', b', c', d', e'⟩ := k
 have h1 := value_eq he a' b' hs c' d' e'
 have h2 := value_cross he b hs d' e'
 have h3 : takes m fr tv cap T ≤ cross m fr tv f T := by omega
 have h4 := sumN_eq m (g := fun i => (if T (fr i) = true ∧ T (tv i) = false then f i else 0) - (if T (fr i) = false ∧ T (tv i) = true then f i else 0)) (h := fun i => if T (fr i) = true ∧ T (tv i) = false then cap i else 0) (fun i hi => by
  obtain ⟨x0, x1⟩ := a i hi
  cases T (fr i) <;> cases T (tv i) <;> simp <;> omega) h3
 intro i hi
 obtain ⟨x0, x1⟩ := a i hi
 have h5 := h4 i hi
 cases h6 : T (fr i) <;> cases h7 : T (tv i) <;> simp [h6, h7] at h5 ⊢ <;> omega
abbrev St := Nat × Bool
variable (fr tv) in
def sFrom (x : St) : Int := if x.2 = true then tv x.1 else fr x.1
variable (fr tv) in
def sTo (x : St) : Int := if x.2 = true then fr x.1 else tv x.1
def room (cap f : Nat → Int) (x : St) : Int := if x.2 = true then f x.1 else cap x.1 - f x.1
def push1 (f : Nat → Int) (x : St) (k : Int) : Nat → Int := fun i => if i = x.1 then (if x.2 = true then f i - k else f i + k) else f i
def pushL (f : Nat → Int) : List St → Int → (Nat → Int)
 |[], _ => f
 |x :: l, k => pushL (push1 f x k) l k
variable (fr tv) in
def Chain : Int → List St → Int → Prop
 |a, [], b => a = b
 |a, x :: l, b => sFrom fr tv x = a ∧ Chain (sTo fr tv x) l b
theorem sumN_set (g : Nat → Int) (j : Nat) (x : Int) : ∀ m : Nat, j < m → sumN m (fun i => if i = j then x else g i) = sumN m g + (x - g j)
 |0, h => by omega
 |m + 1, h => by
  rw [sumN, sumN]
  by_cases e : m = j
  ·subst e
   rw [if_pos rfl, sumN_congr m (h := g) (fun i hi => if_neg (by omega))]
   omega
  ·rw [if_neg e, sumN_set g j x m (by omega)]
   omega
theorem leaves_push1 (f : Nat → Int) (x : St) (k : Int) (hx : x.1 < m) (v : Int) : leaves m fr tv (push1 f x k) v = leaves m fr tv f v + (if sFrom fr tv x = v then k else 0) - (if sTo fr tv x = v then k else 0) := by
 unfold leaves
 have e : sumN m (fun i => (if fr i = v then push1 f x k i else 0) - (if tv i = v then push1 f x k i else 0)) = sumN m (fun i => if i = x.1 then ((if fr x.1 = v then push1 f x k x.1 else 0) - (if tv x.1 = v then push1 f x k x.1 else 0)) else ((if fr i = v then f i else 0) - (if tv i = v then f i else 0))) := by
  refine sumN_congr m (fun i hi => ?_)
  by_cases h : i = x.1
  ·rw [if_pos h, h]
  ·rw [if_neg h]
   unfold push1
   rw [if_neg h]
 rw [e, sumN_set (fun i => (if fr i = v then f i else 0) - (if tv i = v then f i else 0)) x.1 _ m hx]
 unfold push1 sFrom sTo
 rw [if_pos rfl]
 obtain ⟨j, b⟩ := x
 cases b <;> simp only [if_true, Bool.false_eq_true, if_false] <;> by_cases h1 : fr j = v <;> by_cases h2 : tv j = v <;> simp [h1, h2] <;> omega
theorem leaves_pushL (k : Int) (v : Int) : ∀ (l : List St) (f : Nat → Int) (a b : Int), (∀ x ∈ l, x.1 < m) → Chain fr tv a l b → leaves m fr tv (pushL f l k) v = leaves m fr tv f v + (if a = v then k else 0) - (if b = v then k else 0)
 |[], f, a, b, _, h => by
  have h' : a = b := h
  rw [pushL, h']
  omega
 |x :: l, f, a, b, hm, h => by
  obtain ⟨h1, h2⟩ := h
  rw [pushL, leaves_pushL k v l _ _ b (fun y hy => hm y (by simp [hy])) h2, leaves_push1 f x k (hm x (by simp)) v, h1]
  omega
def Once (l : List St) : Prop := l.Pairwise fun x y => x.1 ≠ y.1
theorem pushL_other (k : Int) : ∀ (l : List St) (f : Nat → Int) (i : Nat), (∀ x ∈ l, x.1 ≠ i) → pushL f l k i = f i
 |[], _, _, _ => rfl
 |x :: l, f, i, h => by
  rw [pushL, pushL_other k l _ i (fun y hy => h y (by simp [hy]))]
  unfold push1
  rw [if_neg (fun e => h x (by simp) e.symm)]
theorem pushL_at (k : Int) : ∀ (l : List St) (f : Nat → Int) (x : St), Once l → x ∈ l → pushL f l k x.1 = if x.2 = true then f x.1 - k else f x.1 + k
 |[], _, _, _, h => by cases h
 |y :: l, f, x, ho, h => by
  obtain ⟨h1, h2⟩ := List.pairwise_cons.1 ho
  rw [pushL]
  rcases List.mem_cons.1 h with e | e
  ·subst e
   rw [pushL_other k l _ x.1 (fun z hz e => h1 z hz e.symm)]
   unfold push1
   rw [if_pos rfl]
  ·have e3 : push1 f y k x.1 = f x.1 := if_neg (fun e2 => h1 x e e2.symm)
   rw [pushL_at k l _ x h2 e, e3]
theorem within_pushL {cap f : Nat → Int} (hf : Within m cap f) {l : List St} {k : Int} (ho : Once l) (hk : 0 ≤ k) (hr : ∀ x ∈ l, k ≤ room cap f x) : Within m cap (pushL f l k) := by
 intro i hi
 obtain ⟨h0, h1⟩ := hf i hi
 by_cases h : ∃ x ∈ l, x.1 = i
 ·obtain ⟨x, hx, rfl⟩ := h
  have h2 := hr x hx
  rw [pushL_at k l f x ho hx]
  unfold room at h2
  by_cases hb : x.2 = true
  ·rw [if_pos hb] at h2 ⊢
   omega
  ·rw [if_neg hb] at h2 ⊢
   omega
 ·rw [pushL_other k l f i (fun x hx e => h ⟨x, hx, e⟩)]
  exact ⟨h0, h1⟩
theorem once_of_climb (p : Int → Int) : ∀ (l : List St) (a b : Int), Chain fr tv a l b → (∀ x ∈ l, p (sFrom fr tv x) < p (sTo fr tv x)) → Once l ∧ ∀ x ∈ l, p a ≤ p (sFrom fr tv x)
 |[], a, b, _, _ => ⟨List.Pairwise.nil, fun x hx => by cases hx⟩
 |x :: l, a, b, h, hp => by
  obtain ⟨h1, h2⟩ := h
  obtain ⟨i1, i2⟩ := once_of_climb p l _ b h2 (fun y hy => hp y (by simp [hy]))
  have hx := hp x (by simp)
  refine ⟨List.pairwise_cons.2 ⟨fun y hy e => ?_, i1⟩, fun y hy => ?_⟩
  ·have h3 := i2 y hy
   have h4 := hp y (by simp [hy])
   obtain ⟨j, b1⟩ := x
   obtain ⟨j2, b2⟩ := y
   have e' : j = j2 := e
   subst e'
   unfold sFrom sTo at hx h3 h4
   cases b1 <;> cases b2 <;> simp only [if_true, Bool.false_eq_true, if_false] at hx h3 h4 <;> omega
  ·rcases List.mem_cons.1 hy with e | e
   ·rw [e, h1]
    exact Int.le_refl _
   ·have := i2 y e
    rw [h1] at hx
    omega
theorem bal_pushL {n : Nat} {s t : Int} {f : Nat → Int} (hb : Bal m fr tv n s t f) {l : List St} (k : Int) (hm : ∀ x ∈ l, x.1 < m) (hc : Chain fr tv s l t) : Bal m fr tv n s t (pushL f l k) := by
 intro v hv h1 h2
 rw [leaves_pushL k v l f s t hm hc, hb v hv h1 h2, if_neg (fun e => h1 e.symm), if_neg (fun e => h2 e.symm)]
 rfl
theorem value_pushL {s t : Int} (hst : s ≠ t) {f : Nat → Int} {l : List St} (k : Int) (hm : ∀ x ∈ l, x.1 < m) (hc : Chain fr tv s l t) : leaves m fr tv (pushL f l k) s = leaves m fr tv f s + k := by
 rw [leaves_pushL k s l f s t hm hc, if_pos rfl, if_neg (fun e => hst e.symm)]
 omega
end
end Go.Proofs.Ytdfagllncopmjaa.Flow
end
section
namespace Go.Proofs.Ytdfagllncopmjaa.H
open Go Go.RowKit Go.Proofs.Ytdfagllncopmjaa.PrintC Go.Proofs.YtdfagllncopmjaaW.PrintWords Go.Proofs.YtdfagllncopmjaaW.PrintLast Go.Proofs.YtdfagllncopmjaaW.PrintMore Go.Proofs.Ytdfagllncopmjaa.Flow
abbrev Arc := S48
abbrev Stp := S105
def tgt (l : List Arc) (x : Stp) : Int := if x.f1 = true then (rd_T48 l x.f0).f0 else (rd_T48 l x.f0).f1
def src (l : List Arc) (x : Stp) : Int := if x.f1 = true then (rd_T48 l x.f0).f1 else (rd_T48 l x.f0).f0
def rmv (l : List Arc) (f : List Int) (x : Stp) : Int := if x.f1 = true then rd f x.f0 else (rd_T48 l x.f0).f2 - rd f x.f0
structure NetOk (n : Nat) (l : List Arc) : Prop where
 n0 : 0 < n
 n1 : n ≤ 10000
 ll : l.length ≤ 100000
 ends : ∀ i : Int, 0 ≤ i → i < l.length → (0 ≤ (rd_T48 l i).f0 ∧ (rd_T48 l i).f0 < n) ∧ (0 ≤ (rd_T48 l i).f1 ∧ (rd_T48 l i).f1 < n)
 caps : ∀ i : Int, 0 ≤ i → i < l.length → (rd_T48 l i).f2 ≤ 1099511627776
structure FlowOk (l : List Arc) (f : List Int) : Prop where
 len : f.length = l.length
 wit : ∀ i : Int, 0 ≤ i → i < l.length → 0 ≤ rd f i ∧ rd f i ≤ (rd_T48 l i).f2
structure RowsOk (n : Nat) (l : List Arc) (rows : List (List Stp)) : Prop where
 len : rows.length = n
 row : ∀ u, u < n → ∀ x, x ∈ rows.getD u [] → 0 ≤ x.f0 ∧ x.f0 < l.length ∧ src l x = u
 all : ∀ i : Nat, i < l.length → (⟨i, false⟩ : Stp) ∈ rows.getD (rd_T48 l i).f0.toNat [] ∧ (⟨i, true⟩ : Stp) ∈ rows.getD (rd_T48 l i).f1.toNat []
 short : ∀ u, (rows.getD u []).length ≤ 2000000
def Lk (l : List Arc) (f : List Int) (rows : List (List Stp)) (u w : Nat) : Prop := ∃ x, x ∈ rows.getD u [] ∧ tgt l x = (w : Int) ∧ rmv l f x ≠ 0
theorem tgt_ok {n : Nat} {l : List Arc} (hn : NetOk n l) {x : Stp} (h0 : 0 ≤ x.f0) (h1 : x.f0 < l.length) : 0 ≤ tgt l x ∧ tgt l x < n := by
 have := hn.ends x.f0 h0 h1
 unfold tgt
 split
 ·exact this.1
 ·exact this.2
theorem room_ok {n : Nat} {l : List Arc} {f : List Int} (hn : NetOk n l) (hf : FlowOk l f) {x : Stp} (h0 : 0 ≤ x.f0) (h1 : x.f0 < l.length) : 0 ≤ rmv l f x ∧ rmv l f x ≤ 1099511627776 := by
 have h2 := hf.wit x.f0 h0 h1
 have h3 := hn.caps x.f0 h0 h1
 unfold rmv
 split <;> omega
theorem to_f (n : Int) (b : Bool) (l : List Arc) (f : List Int) (x : Stp) (h0 : 0 ≤ x.f0) (h1 : x.f0 < l.length) : static_Flowing_To.f n b l f x.f0 x.f1 = some (tgt l x) := by
 unfold static_Flowing_To.f static_Flowing_From.f tgt
 cases x.f1 <;> simp [h0, h1]
theorem from_f (n : Int) (b : Bool) (l : List Arc) (f : List Int) (x : Stp) (h0 : 0 ≤ x.f0) (h1 : x.f0 < l.length) : static_Flowing_From.f n b l f x.f0 x.f1 = some (src l x) := by
 unfold static_Flowing_From.f src
 cases x.f1 <;> simp [h0, h1]
theorem room_f {n : Nat} (b : Bool) {l : List Arc} {f : List Int} (hn : NetOk n l) (hf : FlowOk l f) (x : Stp) (h0 : 0 ≤ x.f0) (h1 : x.f0 < l.length) : static_Flowing_Room.f (n : Int) b l f x.f0 x.f1 = some (rmv l f x) := by
 have h2 := hf.wit x.f0 h0 h1
 have h3 := hn.caps x.f0 h0 h1
 have h4 : x.f0 < f.length := by rw [hf.len]; exact h1
 have h5 : wrap64 ((rd_T48 l x.f0).f2 - rd f x.f0) = (rd_T48 l x.f0).f2 - rd f x.f0 := by
  unfold wrap64
  omega
 unfold static_Flowing_Room.f rmv
 cases x.f1 <;> simp [h0, h1, h4, h5]
theorem len_walk (ok : Nat → Prop) (g most : Nat) (q : List Int) (w : World) (h : QSt w ok g q most) :
  Calls Try.prog 63 #[.pointer (some ⟨g, 0, none⟩)] w fun e w' => e = .returned (.int .i64 q.length) ∧ Below w.heap.size w w' := by
 obtain ⟨ring, fr, v, hg, _⟩ := h
 obtain ⟨m, hm⟩ : ∃ m, m = q.length := ⟨_, rfl⟩
 rw [← hm] at hg ⊢
 have c2 := (blk_cell hg 2).trans rfl
 clear hg hm
 go_enter Try.func63, Try.ntmps63
 go_wp2
 go_ret
 exact ⟨rfl, by repeat (first | exact Below.refl _ _ | apply below_drew)⟩
def okq (B gx gd gb : Nat) (k : Nat) : Prop := B ≤ k ∧ k ≠ gx ∧ k ≠ gd ∧ k ≠ gb
structure SkI (w0 : World) (xs : Array Value) (gx gd gb gq : Nat) (d : List Int) (m2 : Nat) (q : List Int) (most : Nat) (W : World) : Prop where
 bx : W.heap[gx]? = some (.cells xs 87 (0, 0))
 bd : IntBlk W gd d
 bb : ∃ cs, W.heap[gb]? = some (.cells cs 105 (0, 0)) ∧ cs.size = m2
 qu : QSt W (okq w0.heap.size gx gd gb) gq q most
 low : Below w0.heap.size w0 W
 xl : w0.heap.size ≤ gx
 dl : w0.heap.size ≤ gd
 bl : w0.heap.size ≤ gb
 xd : gx ≠ gd
 xb : gx ≠ gb
 db : gd ≠ gb
section
variable {w0 : World} {xs : Array Value} {gx gd gb gq : Nat} {d : List Int} {m2 : Nat} {q : List Int} {most : Nat} {W W1 : World}
theorem SkI.below (h : SkI w0 xs gx gd gb gq d m2 q most W) (hb : Below W.heap.size W W1) : SkI w0 xs gx gd gb gq d m2 q most W1 := by
 obtain ⟨cs, hc, hs⟩ := h.bb
 exact ⟨blk_below h.bx hb, blk_below h.bd hb, ⟨cs, blk_below hc hb, hs⟩, h.qu.kept (Kept.of_below hb (fun _ => False)) (fun _ _ h => h), below_step h.low hb, h.xl, h.dl, h.bl, h.xd, h.xb, h.db⟩
theorem below_kept {B : Nat} {w0 W W1 : World} {S : Nat → Prop} (h : Below B w0 W) (hk : Kept W W1 S) (hs : Stay W W1) (hn : ∀ k, S k → B ≤ k) (hB : B ≤ W.heap.size) : Below B w0 W1 :=
 ⟨hs.1.trans h.os, hs.2.1.trans h.tape, hs.2.2.trans h.output, Nat.le_trans h.size hk.1, fun k hlt => (hk.2 k (by omega) (fun h2 => by have := hn k h2; omega)).trans (h.block k hlt)⟩
theorem SkI.call (h : SkI w0 xs gx gd gb gq d m2 q most W) {q2 : List Int} (hk : Kept W W1 (okq w0.heap.size gx gd gb)) (hs : Stay W W1) (hq : QSt W1 (okq w0.heap.size gx gd gb) gq q2 most) : SkI w0 xs gx gd gb gq d m2 q2 most W1 := by
 obtain ⟨cs, hc, hcs⟩ := h.bb
 exact ⟨blk_kept h.bx hk (fun e => e.2.1 rfl), h.bd.kept hk (fun e => e.2.2.1 rfl), ⟨cs, blk_kept hc hk (fun e => e.2.2.2 rfl), hcs⟩, hq, below_kept h.low hk hs (fun k e => e.1) h.low.size, h.xl, h.dl, h.bl, h.xd, h.xb, h.db⟩
theorem SkI.setd (h : SkI w0 xs gx gd gb gq d m2 q most W) (i : Nat) (v : Int) : SkI w0 xs gx gd gb gq (d.set i v) m2 q most (W.setCell ⟨gd, i, none⟩ (.int .i64 v)) := by
 obtain ⟨cs, hc, hcs⟩ := h.bb
 have hk : Kept W (W.setCell ⟨gd, i, none⟩ (.int .i64 v)) (fun k => k = gd) := Kept.setCell (S := fun k => k = gd) (p := ⟨gd, i, none⟩) (Kept.refl W _) (Or.inl rfl) _
 exact ⟨blk_kept h.bx hk h.xd, h.bd.set i v, ⟨cs, blk_kept hc hk (fun e => h.db e.symm), hcs⟩, h.qu.kept hk (fun k ho e => ho.2.2.1 e), below_set h.low h.dl, h.xl, h.dl, h.bl, h.xd, h.xb, h.db⟩
theorem SkI.setb (h : SkI w0 xs gx gd gb gq d m2 q most W) (i : Nat) (v : Value) : SkI w0 xs gx gd gb gq d m2 q most (W.setCell ⟨gb, i, none⟩ v) := by
 obtain ⟨cs, hc, hcs⟩ := h.bb
 have hk : Kept W (W.setCell ⟨gb, i, none⟩ v) (fun k => k = gb) := Kept.setCell (S := fun k => k = gb) (p := ⟨gb, i, none⟩) (Kept.refl W _) (Or.inl rfl) _
 exact ⟨blk_kept h.bx hk h.xb, h.bd.kept hk h.db, ⟨cs.setIfInBounds i v, blk_set hc i v, by rw [Array.size_setIfInBounds, hcs]⟩, h.qu.kept hk (fun k ho e => ho.2.2.2 e), below_set h.low h.bl, h.xl, h.dl, h.bl, h.xd, h.xb, h.db⟩
theorem SkI.spotb (h : SkI w0 xs gx gd gb gq d m2 q most W) {i : Nat} (hi : i < m2) : (∃ v, W.cell? ⟨gb, i, none⟩ = some v) ∧ W.frozen? ⟨gb, i, none⟩ = false := by
 obtain ⟨cs, hc, hcs⟩ := h.bb
 refine ⟨⟨cs[i]'(by omega), (blk_cell hc i).trans ?_⟩, blk_frozen hc i⟩
 exact Array.getElem?_eq_getElem (by omega)
end
structure SkP (w0 : World) (xs : Array Value) (gx gd gb : Nat) (d : List Int) (m2 : Nat) (W : World) : Prop where
 bx : W.heap[gx]? = some (.cells xs 87 (0, 0))
 bd : IntBlk W gd d
 bb : ∃ cs, W.heap[gb]? = some (.cells cs 105 (0, 0)) ∧ cs.size = m2
 low : Below w0.heap.size w0 W
 xl : w0.heap.size ≤ gx
 dl : w0.heap.size ≤ gd
 bl : w0.heap.size ≤ gb
 xd : gx ≠ gd
 xb : gx ≠ gb
 db : gd ≠ gb
theorem SkP.setd {w0 : World} {xs : Array Value} {gx gd gb : Nat} {d : List Int} {m2 : Nat} {W : World} (h : SkP w0 xs gx gd gb d m2 W) (i : Nat) (v : Int) : SkP w0 xs gx gd gb (d.set i v) m2 (W.setCell ⟨gd, i, none⟩ (.int .i64 v)) := by
 obtain ⟨cs, hc, hcs⟩ := h.bb
 have hk : Kept W (W.setCell ⟨gd, i, none⟩ (.int .i64 v)) (fun k => k = gd) := Kept.setCell (S := fun k => k = gd) (p := ⟨gd, i, none⟩) (Kept.refl W _) (Or.inl rfl) _
 exact ⟨blk_kept h.bx hk h.xd, h.bd.set i v, ⟨cs, blk_kept hc hk (fun e => h.db e.symm), hcs⟩, below_set h.low h.dl, h.xl, h.dl, h.bl, h.xd, h.xb, h.db⟩
theorem SkP.queue {w0 : World} {xs : Array Value} {gx gd gb gq : Nat} {d : List Int} {m2 most : Nat} {q : List Int} {W W1 : World} (h : SkP w0 xs gx gd gb d m2 W) (hb : Below W.heap.size W W1) (hg : W.heap.size ≤ gq) (hq : ∀ ok : Nat → Prop, ok gq → QSt W1 ok gq q most) : SkI w0 xs gx gd gb gq d m2 q most W1 := by
 obtain ⟨cs, hc, hs⟩ := h.bb
 have l1 := blk_lt h.bx
 have l2 := blk_lt h.bd
 have l3 := blk_lt hc
 have l4 := h.low.size
 exact ⟨blk_below h.bx hb, blk_below h.bd hb, ⟨cs, blk_below hc hb, hs⟩, hq _ ⟨by omega, by omega, by omega, by omega⟩, below_step h.low hb, h.xl, h.dl, h.bl, h.xd, h.xb, h.db⟩
theorem alloc_size (W : World) (o : Obj) : (W.alloc o).heap.size = W.heap.size + 1 := Array.size_push _
theorem alloc_at {W : World} {k : Nat} {o : Obj} (h : k = W.heap.size) : (W.alloc o).heap[k]? = some o := by rw [h]; exact heap_alloc_new _ _
def dOf (d : List Int) (u : Nat) : Int := rd d (u : Int)
theorem dOf_set {d : List Int} {w : Nat} (h : w < d.length) (x : Int) : dOf (d.set w x) = upd (dOf d) w x := by
 funext u
 unfold dOf upd rd
 simp only [Int.toNat_natCast]
 by_cases e : u = w
 ·subst e
  simp [h]
 ·rw [if_neg e]
  simp [List.getElem?_set_ne (Ne.symm e)]
theorem dOf_start {n s : Nat} (h : s < n) : dOf ((List.replicate n (-1)).set s 0) s = 0 ∧ ∀ u, u < n → u ≠ s → dOf ((List.replicate n (-1)).set s 0) u = -1 := by
 rw [dOf_set (by rw [List.length_replicate]; exact h)]
 refine ⟨upd_same _ _ _, fun u hu e => ?_⟩
 rw [upd_ne e]
 unfold dOf rd
 simp [hu]
theorem seek_start {n s : Nat} (Lk : Nat → Nat → Prop) (h : s < n) : BInv n s Lk None_ (dOf ((List.replicate n (-1)).set s 0)) [s] 0 := BInv.start Lk h (dOf_start h).1 (dOf_start h).2
theorem steps_at {W : World} {base n co g : Nat} {rows : List (List Stp)} (h : Kd.S kSteps 103 W base (fun _ => True) (.slice (some ⟨g, 0, none⟩) n co) rows) (i : Nat) (hi : i < rows.length) :
  ∃ A1 c1, W.cell? ⟨g, i, none⟩ = some (.slice A1 (rows.getD i []).length c1) ∧ Kd.R kStep 105 W base (fun _ => True) (.slice A1 (rows.getD i []).length c1) (rows.getD i []) := by
 have hn := (Kd.S_reads' h).1
 obtain ⟨oki, ce, hl, hM, hcc, hfr, hok, hH⟩ := Kd.S_elem h [] (i : Int) (by omega) (by omega)
 obtain ⟨v, rfl, hR⟩ := hM
 have hv := hcc 0 _ rfl
 simp only [Nat.add_zero, Int.toNat_natCast] at hv hR
 rw [show kSteps.sz = 1 from rfl, Nat.mul_one] at hv
 obtain ⟨A, c, rfl⟩ := Kd.R_slice hR
 exact ⟨A, c, hv, Kd.R_mono hR (fun _ _ => trivial)⟩
theorem step_cells {W : World} {base c : Nat} {A : Option Addr} {row : List Stp} (h : Kd.R kStep 105 W base (fun _ => True) (.slice A row.length c) row) (j : Nat) (hj : j < row.length) :
  ∃ ga, A = some ⟨ga, 0, none⟩ ∧ ga < W.heap.size ∧ W.cell? ⟨ga, j * 2, none⟩ = some (.int .i64 (row.getD j ⟨0, false⟩).f0) ∧ W.cell? ⟨ga, j * 2 + 1, none⟩ = some (.bool (row.getD j ⟨0, false⟩).f1) := by
 obtain ⟨ga, ca, ea, _, hlt, _⟩ := Kd.R_form h (by omega)
 injection ea with ea1 _ _
 subst ea1
 obtain ⟨ce, hcl, hM, hcc, _⟩ := Kd.R_elem h ⟨0, false⟩ (j : Int) (by omega) (by omega)
 have e := k105_openM hM
 subst e
 rw [Int.toNat_natCast] at hcc
 exact ⟨ga, rfl, hlt, hcc 0 _ rfl, hcc 1 _ rfl⟩
end Go.Proofs.Ytdfagllncopmjaa.H
end
section
namespace Go.Proofs.Ytdfagllncopmjaa.H
open Go Go.RowKit Go.Proofs.Ytdfagllncopmjaa.PrintC Go.Proofs.YtdfagllncopmjaaW.PrintWords Go.Proofs.Ytdfagllncopmjaa.Flow
theorem mem_places {e : Nat → Int} {i : Nat} {v : Int} {j : Int} : j ∈ places e i v ↔ ∃ k : Nat, k < i ∧ e k = v ∧ j = (k : Int) := by
 unfold places
 rw [List.mem_map]
 constructor
 ·rintro ⟨k, hk, rfl⟩
  rw [List.mem_filter] at hk
  exact ⟨k, List.mem_range.1 hk.1, by simpa using hk.2, rfl⟩
 ·rintro ⟨k, hk, he, rfl⟩
  exact ⟨k, List.mem_filter.2 ⟨List.mem_range.2 hk, by simpa using he⟩, rfl⟩
theorem at_rows {n : Nat} {l : List Arc} (hn : NetOk n l) {ro ri : List (List Int)} (ho : ro = adjU (frOf l) n l.length) (hi : ri = adjU (toOf l) n l.length) {rows : List (List Stp)} (h : Stage ro ri n n rows) : RowsOk n l rows := by
 obtain ⟨h1, h2⟩ := h
 have hp : ∀ u, u < n → (rows.getD u []).Perm (fwd (places (frOf l) l.length (u : Int)) ++ bwd (places (toOf l) l.length (u : Int))) := fun u hu => by
  have := (h2 u hu).1 hu
  rw [ho, hi, adjU_at _ _ _ _ hu, adjU_at _ _ _ _ hu] at this
  exact this
 have hfr : ∀ k : Nat, frOf l k = (rd_T48 l (k : Int)).f0 := fun k => rfl
 have hto : ∀ k : Nat, toOf l k = (rd_T48 l (k : Int)).f1 := fun k => rfl
 refine ⟨h1, fun u hu x hx => ?_, fun i hil => ⟨?_, ?_⟩, fun u => ?_⟩
 ·have hm := (hp u hu).mem_iff.1 hx
  rcases List.mem_append.1 hm with hm | hm
  ·unfold fwd at hm
   obtain ⟨j, hj, rfl⟩ := List.mem_map.1 hm
   obtain ⟨k, hk, he, rfl⟩ := mem_places.1 hj
   refine ⟨Int.natCast_nonneg k, by show (k : Int) < _; omega, ?_⟩
   exact (hfr k).symm.trans he
  ·unfold bwd at hm
   obtain ⟨j, hj, rfl⟩ := List.mem_map.1 hm
   obtain ⟨k, hk, he, rfl⟩ := mem_places.1 hj
   refine ⟨Int.natCast_nonneg k, by show (k : Int) < _; omega, ?_⟩
   exact (hto k).symm.trans he
 ·have he := (hn.ends i (by omega) (by omega)).1
  obtain ⟨u, hu⟩ := Int.eq_ofNat_of_zero_le he.1
  rw [hu]
  refine (hp u (by omega)).mem_iff.2 (List.mem_append.2 (.inl ?_))
  unfold fwd
  exact List.mem_map.2 ⟨(i : Int), mem_places.2 ⟨i, hil, hu, rfl⟩, rfl⟩
 ·have he := (hn.ends i (by omega) (by omega)).2
  obtain ⟨u, hu⟩ := Int.eq_ofNat_of_zero_le he.1
  rw [hu]
  refine (hp u (by omega)).mem_iff.2 (List.mem_append.2 (.inr ?_))
  unfold bwd
  exact List.mem_map.2 ⟨(i : Int), mem_places.2 ⟨i, hil, hu, rfl⟩, rfl⟩
 ·by_cases hu : u < n
  ·have := (hp u hu).length_eq
   rw [List.length_append, fwd_len, bwd_len] at this
   have a1 := places_len (frOf l) l.length (u : Int)
   have a2 := places_len (toOf l) l.length (u : Int)
   have := hn.ll
   omega
  ·rw [List.getD_eq_getElem?_getD, List.getElem?_eq_none (by omega)]
   simp
theorem adj_short {n : Nat} {l : List Arc} (hn : NetOk n l) (u : Nat) : ((adjU (frOf l) n l.length).getD u []).length + ((adjU (toOf l) n l.length).getD u []).length ≤ 2000000 := by
 have := hn.ll
 by_cases hu : u < n
 ·rw [adjU_at _ _ _ _ hu, adjU_at _ _ _ _ hu]
  have a1 := places_len (frOf l) l.length (u : Int)
  have a2 := places_len (toOf l) l.length (u : Int)
  omega
 ·rw [List.getD_eq_getElem?_getD, List.getElem?_eq_none (by rw [adjU_len]; omega), List.getD_eq_getElem?_getD, List.getElem?_eq_none (by rw [adjU_len]; omega)]
  simp
def Good (l : List Arc) (f : List Int) (d : Nat → Int) (x : Stp) (u : Nat) : Prop := 0 < rmv l f x ∧ d (tgt l x).toNat = d u + 1
inductive Alive (l : List Arc) (f : List Int) (rows : List (List Stp)) (d : Nat → Int) (t : Nat) : Nat → Prop
 |here : Alive l f rows d t t
 |step (u : Nat) (x : Stp) : x ∈ rows.getD u [] → Good l f d x u → Alive l f rows d t (tgt l x).toNat → Alive l f rows d t u
def RPath (n : Nat) (l : List Arc) (f : List Int) (rows : List (List Stp)) (d : Nat → Int) (s : Nat) (nx : Nat → Int) : List Stp → Nat → Prop
 |[], v => v = s
 |x :: W, v => ∃ u, u < n ∧ src l x = (u : Int) ∧ tgt l x = (v : Int) ∧ 0 < rmv l f x ∧ d v = d u + 1 ∧ 0 ≤ nx u ∧ (nx u).toNat < (rows.getD u []).length ∧ (rows.getD u []).getD (nx u).toNat ⟨0, false⟩ = x ∧ RPath n l f rows d s nx W u
structure Dn (n : Nat) (l : List Arc) (f : List Int) (rows : List (List Stp)) (d : Nat → Int) (s : Nat) (nx : Nat → Int) (v : Nat) (W : List Stp) : Prop where
 nb : ∀ u, u < n → 0 ≤ nx u ∧ nx u ≤ ((rows.getD u []).length : Int)
 vn : v < n
 path : RPath n l f rows d s nx W v
def Dead (n : Nat) (l : List Arc) (f : List Int) (rows : List (List Stp)) (d : Nat → Int) (t : Nat) (nx : Nat → Int) : Prop :=
 ∀ u, u < n → ∀ i : Nat, (i : Int) < nx u → i < (rows.getD u []).length → Good l f d ((rows.getD u []).getD i ⟨0, false⟩) u → ¬ Alive l f rows d t (tgt l ((rows.getD u []).getD i ⟨0, false⟩)).toNat
section
variable {n : Nat} {l : List Arc} {f : List Int} {rows : List (List Stp)} {d : Nat → Int} {s t : Nat} {nx : Nat → Int}
theorem rpath_level (hs : d s = 0) : ∀ (W : List Stp) (v : Nat), RPath n l f rows d s nx W v → d v = W.length
 |[], v, h => by
  have e : v = s := h
  rw [e, hs]
  rfl
 |x :: W, v, h => by
  obtain ⟨u, _, _, _, _, h5, _, _, _, h9⟩ := h
  have := rpath_level hs W u h9
  rw [h5, this, List.length_cons]
  omega
theorem rpath_other {nx' : Nat → Int} : ∀ (W : List Stp) (v : Nat), RPath n l f rows d s nx W v → (∀ u, d u < d v → nx' u = nx u) → RPath n l f rows d s nx' W v
 |[], v, h, _ => h
 |x :: W, v, h, ha => by
  obtain ⟨u, h1, h2, h3, h4, h5, h6, h7, h8, h9⟩ := h
  have e := ha u (by omega)
  exact ⟨u, h1, h2, h3, h4, h5, by rw [e]; exact h6, by rw [e]; exact h7, by rw [e]; exact h8, rpath_other W u h9 (fun y hy => ha y (by omega))⟩
theorem Dn.skip {v : Nat} {W : List Stp} (h : Dn n l f rows d s nx v W) (hv : nx v < ((rows.getD v []).length : Int)) : Dn n l f rows d s (upd nx v (nx v + 1)) v W := by
 refine ⟨fun u hu => ?_, h.vn, rpath_other W v h.path (fun u hu => upd_ne (fun e => by subst e; omega))⟩
 have := h.nb u hu
 unfold upd
 split
 ·next e => subst e; omega
 ·exact this
theorem getD_mem {α : Type} {l : List α} {i : Nat} (h : i < l.length) (z : α) : l.getD i z ∈ l := by
 rw [List.getD_eq_getElem?_getD, List.getElem?_eq_getElem h]
 exact List.getElem_mem h
theorem Dn.advance (hn : NetOk n l) (hr : RowsOk n l rows) {v w : Nat} {W : List Stp} (h : Dn n l f rows d s nx v W) (hv : nx v < ((rows.getD v []).length : Int)) {x : Stp} (hx : (rows.getD v []).getD (nx v).toNat ⟨0, false⟩ = x) (hw : tgt l x = (w : Int)) (h0 : 0 < rmv l f x) (hd : d w = d v + 1) : Dn n l f rows d s nx w (x :: W) := by
 have hb := (h.nb v h.vn).1
 have hlt : (nx v).toNat < (rows.getD v []).length := by omega
 obtain ⟨h1, h2, h3⟩ := hr.row v h.vn x (by rw [← hx]; exact getD_mem hlt _)
 have := tgt_ok hn h1 h2
 exact ⟨h.nb, by omega, v, h.vn, h3, hw, h0, hd, hb, hlt, hx, h.path⟩
theorem Dn.retreat {v : Nat} {x : Stp} {W : List Stp} (h : Dn n l f rows d s nx v (x :: W)) : ∃ u, u < n ∧ src l x = (u : Int) ∧ tgt l x = (v : Int) ∧ d v = d u + 1 ∧ 0 ≤ nx u ∧ nx u < ((rows.getD u []).length : Int) ∧ (rows.getD u []).getD (nx u).toNat ⟨0, false⟩ = x ∧ Dn n l f rows d s (upd nx u (nx u + 1)) u W := by
 obtain ⟨u, h1, h2, h3, h4, h5, h6, h7, h8, h9⟩ := h.path
 have h10 : Dn n l f rows d s nx u W := ⟨h.nb, h1, h9⟩
 exact ⟨u, h1, h2, h3, h5, h6, by omega, h8, h10.skip (by omega)⟩
theorem dead_skip {v : Nat} (h : Dead n l f rows d t nx) (h0 : 0 ≤ nx v) (hx : Good l f d ((rows.getD v []).getD (nx v).toNat ⟨0, false⟩) v → ¬ Alive l f rows d t (tgt l ((rows.getD v []).getD (nx v).toNat ⟨0, false⟩)).toNat) : Dead n l f rows d t (upd nx v (nx v + 1)) := by
 intro u hu i hi hl hg
 by_cases e : u = v
 ·subst e
  rw [upd_same] at hi
  by_cases e2 : (i : Int) = nx u
  ·have e3 : i = (nx u).toNat := by omega
   subst e3
   exact hx hg
  ·exact h u hu i (by omega) hl hg
 ·rw [upd_ne e] at hi
  exact h u hu i hi hl hg
theorem dead_done {v : Nat} (h : Dead n l f rows d t nx) (hv : v < n) (hl : ((rows.getD v []).length : Int) ≤ nx v) (hvt : v ≠ t) : ¬ Alive l f rows d t v := by
 intro ha
 cases ha with
 |here => exact hvt rfl
 |step _ x hm hg ha =>
  obtain ⟨i, hi, rfl⟩ := List.getElem_of_mem hm
  have e : (rows.getD v []).getD i ⟨0, false⟩ = (rows.getD v [])[i] := by rw [List.getD_eq_getElem?_getD, List.getElem?_eq_getElem hi]; rfl
  have h2 := h v hv i (by omega) hi
  rw [e] at h2
  exact h2 hg ha
theorem dead_zero (h0 : ∀ u, u < n → nx u = 0) : Dead n l f rows d t nx := fun u hu i hi => by
 rw [h0 u hu] at hi
 omega
def mu (n : Nat) (rows : List (List Stp)) (d nx : Nat → Int) (v : Nat) : Nat := (((n : Int) + 2) * sumN n (fun u => ((rows.getD u []).length : Int) - nx u) + (n - d v)).toNat
theorem sum_upd {v : Nat} (hv : v < n) (x : Int) : sumN n (fun u => ((rows.getD u []).length : Int) - upd nx v x u) = sumN n (fun u => ((rows.getD u []).length : Int) - nx u) + (nx v - x) := by
 have := sumN_set (fun u => ((rows.getD u []).length : Int) - nx u) v (((rows.getD v []).length : Int) - x) n hv
 rw [sumN_congr n (h := fun u => if u = v then ((rows.getD v []).length : Int) - x else ((rows.getD u []).length : Int) - nx u) (fun u _ => by
  unfold upd
  by_cases e : u = v
  ·subst e
   simp
  ·simp [e]), this]
 omega
theorem sum_pos (hb : ∀ u, u < n → 0 ≤ nx u ∧ nx u ≤ ((rows.getD u []).length : Int)) : 0 ≤ sumN n (fun u => ((rows.getD u []).length : Int) - nx u) := sumN_nonneg n (fun u hu => by have := hb u hu; omega)
theorem mu_adv {v w : Nat} (hb : ∀ u, u < n → 0 ≤ nx u ∧ nx u ≤ ((rows.getD u []).length : Int)) (hd : d w = d v + 1) (hw : d w ≤ n) : mu n rows d nx w < mu n rows d nx v := by
 have h1 := sum_pos hb
 unfold mu
 have h2 : 0 ≤ ((n : Int) + 2) * sumN n (fun u => ((rows.getD u []).length : Int) - nx u) := Int.mul_nonneg (by omega) h1
 omega
theorem mu_step {v u : Nat} (hu : u < n) (hb2 : ∀ x, x < n → 0 ≤ upd nx u (nx u + 1) x ∧ upd nx u (nx u + 1) x ≤ ((rows.getD x []).length : Int)) (hd : d v ≤ d u + 1) (hv : d u ≤ n) : mu n rows d (upd nx u (nx u + 1)) u < mu n rows d nx v := by
 have h1 := sum_pos hb2
 have h2 := sum_upd (rows := rows) (nx := nx) hu (nx u + 1)
 unfold mu
 rw [h2] at h1 ⊢
 obtain ⟨S, hS⟩ : ∃ S, S = sumN n (fun u => ((rows.getD u []).length : Int) - nx u) := ⟨_, rfl⟩
 rw [← hS] at h1 ⊢
 have h3 : ((n : Int) + 2) * (S + (nx u - (nx u + 1))) = ((n : Int) + 2) * S - (n + 2) := by
  rw [show S + (nx u - (nx u + 1)) = S - 1 by omega, Int.mul_sub]
  omega
 have h4 : 0 ≤ ((n : Int) + 2) * (S + (nx u - (nx u + 1))) := Int.mul_nonneg (by omega) h1
 rw [h3] at h4 ⊢
 omega
def toSt (x : Stp) : St := (x.f0.toNat, x.f1)
theorem src_st (x : Stp) (h : 0 ≤ x.f0) : sFrom (frOf l) (toOf l) (toSt x) = src l x := by
 unfold sFrom toSt src frOf toOf arcAt
 rw [show ((x.f0.toNat : Nat) : Int) = x.f0 by omega]
theorem tgt_st (x : Stp) (h : 0 ≤ x.f0) : sTo (frOf l) (toOf l) (toSt x) = tgt l x := by
 unfold sTo toSt tgt frOf toOf arcAt
 rw [show ((x.f0.toNat : Nat) : Int) = x.f0 by omega]
theorem chain_snoc {p q : Nat → Int} : ∀ (L : List St) (a b c : Int) (x : St), Chain p q a L b → sFrom p q x = b → sTo p q x = c → Chain p q a (L ++ [x]) c
 |[], a, b, c, x, h, h1, h2 => by
  have e : a = b := h
  exact ⟨h1.trans e.symm, h2⟩
 |y :: L, a, b, c, x, h, h1, h2 => ⟨h.1, chain_snoc L _ b c x h.2 h1 h2⟩
structure WayOk (n : Nat) (l : List Arc) (f : List Int) (d : Nat → Int) (s t : Nat) (way : List Stp) : Prop where
 arcs : ∀ x, x ∈ way → 0 ≤ x.f0 ∧ x.f0 < l.length
 room : ∀ x, x ∈ way → 0 < rmv l f x
 climb : ∀ x, x ∈ way → d (tgt l x).toNat = d (src l x).toNat + 1
 chain : Chain (frOf l) (toOf l) s (way.map toSt) t
theorem rpath_way (hr : RowsOk n l rows) : ∀ (W : List Stp) (v : Nat), RPath n l f rows d s nx W v → WayOk n l f d s v W.reverse
 |[], v, h => ⟨fun x hx => by simp at hx, fun x hx => by simp at hx, fun x hx => by simp at hx, by
   have e : v = s := h
   subst e
   rfl⟩
 |x :: W, v, h => by
  obtain ⟨u, h1, h2, h3, h4, h5, h6, h7, h8, h9⟩ := h
  have ih := rpath_way hr W u h9
  obtain ⟨a1, a2, _⟩ := hr.row u h1 x (by rw [← h8]; exact getD_mem h7 _)
  rw [List.reverse_cons]
  refine ⟨fun y hy => ?_, fun y hy => ?_, fun y hy => ?_, ?_⟩
  ·rcases List.mem_append.1 hy with hy | hy
   ·exact ih.arcs y hy
   ·rw [List.mem_singleton] at hy; subst hy; exact ⟨a1, a2⟩
  ·rcases List.mem_append.1 hy with hy | hy
   ·exact ih.room y hy
   ·rw [List.mem_singleton] at hy; subst hy; exact h4
  ·rcases List.mem_append.1 hy with hy | hy
   ·exact ih.climb y hy
   ·rw [List.mem_singleton] at hy; subst hy; rw [h2, h3]; exact h5
  ·rw [List.map_append]
   exact chain_snoc _ _ _ _ _ ih.chain ((src_st x a1).trans h2) ((tgt_st x a1).trans h3)
end
section
variable {n : Nat} {l : List Arc} {f : List Int} {rows : List (List Stp)} {d : Nat → Int} {s t : Nat}
theorem link_good (hn : NetOk n l) (hf : FlowOk l f) (hr : RowsOk n l rows) {p u : Nat} (hp : p < n) (h : Lk l f rows p u) (hd : d u = d p + 1) : ∃ x, x ∈ rows.getD p [] ∧ Good l f d x p ∧ (tgt l x).toNat = u := by
 obtain ⟨x, hx, ht, h0⟩ := h
 obtain ⟨a1, a2, _⟩ := hr.row p hp x hx
 have := (room_ok hn hf a1 a2).1
 refine ⟨x, hx, ⟨by omega, ?_⟩, ?_⟩ <;> rw [ht, Int.toNat_natCast]
 exact hd
theorem alive_back (hn : NetOk n l) (hf : FlowOk l f) (hr : RowsOk n l rows) (hb : Bf n s (Lk l f rows) d) : ∀ (k : Nat) (u : Nat), u < n → d u = k → Alive l f rows d t u → Alive l f rows d t s := by
 intro k
 induction k with
 |zero =>
  intro u hu e ha
  rcases hb.2.2.1 u hu (by omega) with rfl | ⟨p, _, h0, h1, _⟩
  ·exact ha
  ·omega
 |succ k ih =>
  intro u hu e ha
  rcases hb.2.2.1 u hu (by omega) with rfl | ⟨p, hp, h0, h1, hl⟩
  ·exact ha
  ·obtain ⟨x, hx, hg, ht⟩ := link_good hn hf hr hp hl h1
   exact ih p hp (by omega) (.step p x hx hg (by rw [ht]; exact ha))
theorem alive_start (hn : NetOk n l) (hf : FlowOk l f) (hr : RowsOk n l rows) (hb : Bf n s (Lk l f rows) d) (ht : t < n) (h : 0 ≤ d t) : Alive l f rows d t s := by
 obtain ⟨k, hk⟩ := Int.eq_ofNat_of_zero_le h
 exact alive_back hn hf hr hb k t ht hk .here
theorem bf_closed (hn : NetOk n l) (hf : FlowOk l f) (hr : RowsOk n l rows) (hb : Bf n s (Lk l f rows) d) : Closed l.length (frOf l) (toOf l) (capOf l) (dOf f) (fun v => decide (0 ≤ d v.toNat)) := by
 intro i hi
 have hall := hr.all i hi
 have hen := hn.ends i (by omega) (by omega)
 have hle := hf.wit i (by omega) (by omega)
 obtain ⟨a, ha⟩ := Int.eq_ofNat_of_zero_le hen.1.1
 obtain ⟨b, hb'⟩ := Int.eq_ofNat_of_zero_le hen.2.1
 have e1 : frOf l i = (a : Int) := ha
 have e2 : toOf l i = (b : Int) := hb'
 rw [ha, hb'] at hall
 simp only [Int.toNat_natCast] at hall
 rw [e1, e2]
 simp only [Int.toNat_natCast, decide_eq_true_eq]
 refine ⟨fun h1 h2 => ?_, fun h1 h2 => ?_⟩
 ·refine (hb.2.2.2.1 a (by omega) h1 b ⟨⟨i, false⟩, hall.1, hb', ?_⟩).1
  show (rd_T48 l (i : Int)).f2 - rd f (i : Int) ≠ 0
  have h3 : rd f (i : Int) < (rd_T48 l (i : Int)).f2 := h2
  omega
 ·refine (hb.2.2.2.1 b (by omega) h1 a ⟨⟨i, true⟩, hall.2, ha, ?_⟩).1
  show rd f (i : Int) ≠ 0
  have h3 : 0 < rd f (i : Int) := h2
  omega
end
def goF (f : List Int) (x : Stp) (k : Int) : List Int := f.set x.f0.toNat (if x.f1 = true then rd f x.f0 - k else rd f x.f0 + k)
def goL (f : List Int) (way : List Stp) (k : Int) : List Int := way.foldl (fun f x => goF f x k) f
theorem goF_len (f : List Int) (x : Stp) (k : Int) : (goF f x k).length = f.length := List.length_set ..
theorem goF_dOf {f : List Int} {x : Stp} {k : Int} (h0 : 0 ≤ x.f0) (h1 : x.f0 < f.length) : dOf (goF f x k) = push1 (dOf f) (toSt x) k := by
 unfold goF
 rw [dOf_set (by omega)]
 funext i
 have e : dOf f x.f0.toNat = rd f x.f0 := by unfold dOf; rw [show ((x.f0.toNat : Nat) : Int) = x.f0 by omega]
 unfold upd push1 toSt
 by_cases h : i = x.f0.toNat
 ·simp only [h, if_true, e]
 ·simp only [h, if_false]
theorem go_f (n : Int) (b : Bool) (l : List Arc) (f : List Int) (x : Stp) (k : Int) (h0 : 0 ≤ x.f0) (h1 : x.f0 < f.length) (hk : 0 ≤ k ∧ k ≤ 1099511627776) (hb : 0 ≤ rd f x.f0 ∧ rd f x.f0 ≤ 1099511627776) : static_Flowing_Go.f n b l f x.f0 x.f1 k = some (goF f x k) := by
 have e1 : wrap64 (-k) = -k := by unfold wrap64; omega
 have e2 : wrap64 (rd f x.f0 + -k) = rd f x.f0 - k := by unfold wrap64; omega
 have e3 : wrap64 (rd f x.f0 + k) = rd f x.f0 + k := by unfold wrap64; omega
 unfold static_Flowing_Go.f goF
 cases x.f1 <;> simp [h0, h1, e1, e2, e3]
theorem goL_dOf (k : Int) : ∀ (way : List Stp) (f : List Int), (∀ x, x ∈ way → 0 ≤ x.f0 ∧ x.f0 < f.length) → dOf (goL f way k) = pushL (dOf f) (way.map toSt) k
 |[], _, _ => rfl
 |x :: way, f, h => by
  have hx := h x (List.mem_cons_self ..)
  show dOf (goL (goF f x k) way k) = pushL (push1 (dOf f) (toSt x) k) (way.map toSt) k
  rw [goL_dOf k way (goF f x k) (fun y hy => by rw [goF_len]; exact h y (List.mem_cons_of_mem _ hy)), goF_dOf hx.1 hx.2]
theorem goL_len (k : Int) : ∀ (way : List Stp) (f : List Int), (goL f way k).length = f.length
 |[], _ => rfl
 |x :: way, f => by
  show (goL (goF f x k) way k).length = f.length
  rw [goL_len k way, goF_len]
theorem goL_snoc (f : List Int) (way : List Stp) (x : Stp) (k : Int) : goL f (way ++ [x]) k = goF (goL f way k) x k := by
 unfold goL
 rw [List.foldl_append]
 rfl
theorem flowOk_of {l : List Arc} {f : List Int} (hl : f.length = l.length) (h : Within l.length (capOf l) (dOf f)) : FlowOk l f := by
 refine ⟨hl, fun i h0 h1 => ?_⟩
 obtain ⟨k, rfl⟩ := Int.eq_ofNat_of_zero_le h0
 exact h k (by omega)
theorem within_of {l : List Arc} {f : List Int} (h : FlowOk l f) : Within l.length (capOf l) (dOf f) := fun i hi => h.wit i (by omega) (by omega)
section
variable {n : Nat} {l : List Arc} {f : List Int} {d : Nat → Int} {s t : Nat} {way : List Stp} {k : Int}
theorem way_once (h : WayOk n l f d s t way) : Once (way.map toSt) := by
 refine (once_of_climb (fun v => d v.toNat) (way.map toSt) s t h.chain (fun y hy => ?_)).1
 obtain ⟨x, hx, rfl⟩ := List.mem_map.1 hy
 rw [src_st x (h.arcs x hx).1, tgt_st x (h.arcs x hx).1]
 have := h.climb x hx
 omega
theorem room_st (h : WayOk n l f d s t way) {x : Stp} (hx : x ∈ way) : Flow.room (capOf l) (dOf f) (toSt x) = rmv l f x := by
 have h0 := (h.arcs x hx).1
 unfold Flow.room toSt rmv dOf capOf arcAt
 rw [show ((x.f0.toNat : Nat) : Int) = x.f0 by omega]
theorem push_flow (hf : FlowOk l f) (h : WayOk n l f d s t way) (hk : 0 ≤ k) (hr : ∀ x, x ∈ way → k ≤ rmv l f x) (j : Nat) : FlowOk l (goL f (way.take j) k) := by
 have hsub : ∀ x, x ∈ way.take j → x ∈ way := fun x hx => List.mem_of_mem_take hx
 refine flowOk_of (by rw [goL_len]; exact hf.len) ?_
 rw [goL_dOf k (way.take j) f (fun x hx => by rw [hf.len]; exact h.arcs x (hsub x hx)), List.map_take]
 refine within_pushL (within_of hf) ((way_once h).sublist (List.take_sublist ..)) hk (fun y hy => ?_)
 obtain ⟨x, hx, rfl⟩ := List.mem_map.1 (List.mem_of_mem_take hy)
 rw [room_st h hx]
 exact hr x hx
theorem push_value (hf : FlowOk l f) (h : WayOk n l f d s t way) (hst : s ≠ t) (hb : Bal l.length (frOf l) (toOf l) n s t (dOf f)) : Bal l.length (frOf l) (toOf l) n s t (dOf (goL f way k)) ∧ leaves l.length (frOf l) (toOf l) (dOf (goL f way k)) s = leaves l.length (frOf l) (toOf l) (dOf f) s + k := by
 have hm : ∀ x ∈ way.map toSt, x.1 < l.length := fun y hy => by
  obtain ⟨x, hx, rfl⟩ := List.mem_map.1 hy
  have := h.arcs x hx
  show x.f0.toNat < l.length
  omega
 rw [goL_dOf k way f (fun x hx => by rw [hf.len]; exact h.arcs x hx)]
 exact ⟨bal_pushL hb k hm h.chain, value_pushL (by omega) k hm h.chain⟩
end
theorem least_go {n : Nat} (b : Bool) {l : List Arc} {f : List Int} (hn : NetOk n l) (hf : FlowOk l f) (way : List Stp) (hw : ∀ x, x ∈ way → 0 ≤ x.f0 ∧ x.f0 < l.length) (hl : way.length ≤ 1000000) :
  ∀ (c i : Nat) (k : Int), i + c = way.length → ∃ r, static_Flowing_Least.l0 (c + 1) k way (way.length : Int) (i : Int) (n : Int) b l f = some r ∧ r ≤ k ∧ (∀ j, i ≤ j → j < way.length → r ≤ rmv l f (way.getD j ⟨0, false⟩)) ∧ (r = k ∨ ∃ x, x ∈ way ∧ r = rmv l f x) := by
 intro c
 induction c with
 |zero =>
  intro i k hi
  refine ⟨k, ?_, Int.le_refl _, fun j h1 h2 => by omega, .inl rfl⟩
  unfold static_Flowing_Least.l0
  rw [if_neg (by omega)]
 |succ c ih =>
  intro i k hi
  have hil : i < way.length := by omega
  have hx := hw _ (getD_mem hil ⟨0, false⟩)
  have e : rd_T105 way (i : Int) = way.getD i ⟨0, false⟩ := by
   unfold rd_T105
   rw [Int.toNat_natCast]
   rfl
  obtain ⟨r, h1, h2, h3, h4⟩ := ih (i + 1) (mn k (rmv l f (way.getD i ⟨0, false⟩))) (by omega)
  have hmn : mn k (rmv l f (way.getD i ⟨0, false⟩)) = min k (rmv l f (way.getD i ⟨0, false⟩)) := by
   unfold mn
   omega
  refine ⟨r, ?_, by rw [hmn] at h2; omega, fun j hj1 hj2 => ?_, ?_⟩
  ·have e9 := w1n i (by omega)
   have b1 : (i : Int) < (way.length : Int) := Int.ofNat_lt.2 hil
   rw [static_Flowing_Least.l0, if_pos b1, if_pos (Int.natCast_nonneg i), if_pos b1, e, room_f b hn hf _ hx.1 hx.2, Option.bind_some, e9]
   exact h1
  ·by_cases e2 : j = i
   ·subst e2
    rw [hmn] at h2
    omega
   ·exact h3 j (by omega) hj2
  ·rcases h4 with h4 | h4
   ·rw [hmn] at h4
    by_cases h5 : k ≤ rmv l f (way.getD i ⟨0, false⟩)
    ·exact .inl (by omega)
    ·exact .inr ⟨way.getD i ⟨0, false⟩, getD_mem hil _, by omega⟩
   ·exact .inr h4
theorem least_f {n : Nat} (b : Bool) {l : List Arc} {f : List Int} (hn : NetOk n l) (hf : FlowOk l f) {d : Nat → Int} {s t : Nat} {way : List Stp} (h : WayOk n l f d s t way) (hst : s ≠ t) (hl : way.length ≤ n) :
  ∃ K r, static_Flowing_Least.f K (n : Int) b l f way = some r ∧ 0 < r ∧ r ≤ 1099511627776 ∧ ∀ x, x ∈ way → r ≤ rmv l f x := by
 cases way with
 |nil => exact absurd (show (s : Int) = (t : Int) from h.chain) (by omega)
 |cons x way =>
  have hx := h.arcs x (List.mem_cons_self ..)
  have hrx := room_ok hn hf hx.1 hx.2
  have hpos := h.room x (List.mem_cons_self ..)
  have hn1 := hn.n1
  have hlen : way.length ≤ 1000000 := by rw [List.length_cons] at hl; omega
  obtain ⟨r, h1, h2, h3, h4⟩ := least_go b hn hf way (fun y hy => h.arcs y (List.mem_cons_of_mem _ hy)) hlen way.length 0 (rmv l f x) (by omega)
  refine ⟨way.length + 1, r, ?_, ?_, by omega, fun y hy => ?_⟩
  ·have e : rd_T105 (x :: way) 0 = x := rfl
   have b1 : (0 : Int) < ((x :: way).length : Int) := by rw [List.length_cons]; omega
   have b2 : (1 : Int) ≤ ((x :: way).length : Int) := by omega
   rw [static_Flowing_Least.f, if_pos b1, e, room_f b hn hf x hx.1 hx.2, Option.bind_some, if_pos b2, List.drop_one, Option.bind_some]
   exact h1
  ·rcases h4 with h4 | ⟨y, hy, h4⟩
   ·rw [h4]; exact hpos
   ·rw [h4]; exact h.room y (List.mem_cons_of_mem _ hy)
  ·rcases List.mem_cons.1 hy with e | hy
   ·rw [e]; exact h2
   ·obtain ⟨j, hj, rfl⟩ := List.getElem_of_mem hy
    have h5 := h3 j (Nat.zero_le _) hj
    rw [List.getD_eq_getElem?_getD, List.getElem?_eq_getElem hj] at h5
    exact h5
theorem take_pushS {l : List Stp} {j : Nat} (h : j < l.length) : l.take (j + 1) = l.take j ++ [l.getD j ⟨0, false⟩] := by
 rw [List.take_add_one, List.getElem?_eq_getElem h, List.getD_eq_getElem?_getD, List.getElem?_eq_getElem h]
 rfl
theorem ends_ok {n : Nat} {l : List Arc} (hn : NetOk n l) : Flow.Ends l.length (frOf l) (toOf l) n := fun i hi => hn.ends i (by omega) (by omega)
theorem value_top {n : Nat} {l : List Arc} {f : List Int} {s t : Nat} (hn : NetOk n l) (hf : FlowOk l f) (hb : Bal l.length (frOf l) (toOf l) n s t (dOf f)) (hs : s < n) (hst : s ≠ t) : leaves l.length (frOf l) (toOf l) (dOf f) s ≤ takes l.length (frOf l) (toOf l) (capOf l) (fun v => decide (v = (s : Int))) :=
 value_le (ends_ok hn) (within_of hf) hb ⟨by omega, by omega⟩ (by simp) (by simp; omega)
end Go.Proofs.Ytdfagllncopmjaa.H
end
section
namespace Go.Proofs.Ytdfagllncopmjaa.H
open Go Go.RowKit Go.Proofs.Ytdfagllncopmjaa.PrintC Go.Proofs.YtdfagllncopmjaaW.PrintWords Go.Proofs.YtdfagllncopmjaaW.PrintLast Go.Proofs.YtdfagllncopmjaaW.PrintMore Go.Proofs.Ytdfagllncopmjaa.Flow
theorem at_net (n : Nat) (b : Bool) (A : Option Addr) (c : Nat) (l : List Arc) (Af : Option Addr) (lf cf : Nat) (w : World) (hn : NetOk n l) (hr : Kd.C k48 w A l.length l) (hc : l.length ≤ c) :
  Calls Try.prog 33 #[.agg #[.int .i64 n, .bool b, .slice A l.length c], .slice Af lf cf] w fun e w' => ∃ (g : Nat) (rows : List (List Stp)), e = .returned (.agg #[.int .i64 n, .bool b, .slice A l.length c, .slice Af lf cf, .slice (some ⟨g, 0, none⟩) n n]) ∧ Kd.S kSteps 103 w' w.heap.size (fun _ => True) (.slice (some ⟨g, 0, none⟩) n n) rows ∧ RowsOk n l rows ∧ Below w.heap.size w w' := by
 have hn1 := hn.n1
 have hll := hn.ll
 have he : ∀ i, i < l.length → 0 ≤ frOf l i ∧ frOf l i < n := fun i hi => (ends_ok hn i hi).1
 have he2 : ∀ i, i < l.length → 0 ≤ toOf l i ∧ toOf l i < n := fun i hi => (ends_ok hn i hi).2
 obtain ⟨k1, h1⟩ := leaving_f b l n (by omega) (by omega) he
 obtain ⟨k2, h2⟩ := coming_f b l n (by omega) (by omega) he2
 have h1' : PrintLF.adj_lists.f (max k1 k2) n b l = some (adjU (frOf l) n l.length) := at_rounds (g := fun k => PrintLF.adj_lists.f k n b l) (fun k => PrintLF.adj_lists.mono _ _ _ k) (Nat.le_max_left k1 k2) h1
 have h2' : PrintLT.adj_lists.f (max k1 k2) n b l = some (adjU (toOf l) n l.length) := at_rounds (g := fun k => PrintLT.adj_lists.f k n b l) (fun k => PrintLT.adj_lists.mono _ _ _ k) (Nat.le_max_right k1 k2) h2
 refine (at_walk (max k1 k2) n b A c l Af lf cf _ _ w hn.n0 (by omega) hr hc h1' h2' (adjU_len _ _ _) (adjU_len _ _ _) (fun u => adj_short hn u)).mono ?_
 rintro e w' ⟨g, rows, rfl, hS, hst, hb⟩
 exact ⟨g, rows, rfl, hS, at_rows hn rfl rfl hst, hb⟩
theorem steps_walk (n v : Nat) (b : Bool) (A : Option Addr) (l c : Nat) (Af : Option Addr) (lf cf g rl rc : Nat) (Ar : Option Addr) (w : World) (hv : v < n) (h : w.cell? ⟨g, v, none⟩ = some (.slice Ar rl rc)) :
  Calls Try.prog 92 #[.agg #[.int .i64 n, .bool b, .slice A l c, .slice Af lf cf, .slice (some ⟨g, 0, none⟩) n n], .int .i64 v] w fun e w' => e = .returned (.slice Ar rl rc) ∧ Below w.heap.size w w' := by
 have hu2 := Try.underlying87
 have i0 : (0 : Int) ≤ (v : Int) := by omega
 have i1 : (v : Int) < (n : Int) := by omega
 have h2 := cell_alloc h
 go_enter Try.func92, Try.ntmps92
 go_wp2
 go_ret
 exact ⟨rfl, by repeat (first | exact Below.refl _ _ | apply below_drew | apply below_alloc)⟩
theorem down_skip {n : Nat} {l : List Arc} {f : List Int} {rows : List (List Stp)} {d nx : List Int} {s t v i : Nat} {W : List Stp} {P : Prop} (hl : nx.length = n) (h : Dn n l f rows (dOf d) s (dOf nx) v W) (hi : dOf nx v = (i : Int)) (hil : i < (rows.getD v []).length)
  (hbad : ¬ Good l f (dOf d) ((rows.getD v []).getD i ⟨0, false⟩) v) (hd : dOf d v ≤ n) (hD : P → Dead n l f rows (dOf d) t (dOf nx)) :
  (nx.set v ((i : Int) + 1)).length = n ∧ Dn n l f rows (dOf d) s (dOf (nx.set v ((i : Int) + 1))) v W ∧ (P → Dead n l f rows (dOf d) t (dOf (nx.set v ((i : Int) + 1)))) ∧ mu n rows (dOf d) (dOf (nx.set v ((i : Int) + 1))) v < mu n rows (dOf d) (dOf nx) v := by
 have hv := h.vn
 have e : dOf (nx.set v ((i : Int) + 1)) = upd (dOf nx) v (dOf nx v + 1) := by rw [dOf_set (by omega), hi]
 rw [e]
 have hlt : dOf nx v < ((rows.getD v []).length : Int) := by omega
 have h2 := h.skip hlt
 refine ⟨by rw [List.length_set]; exact hl, h2, fun hp => dead_skip (hD hp) (by omega) (fun hg => ?_), mu_step hv h2.nb (by omega) hd⟩
 rw [hi, Int.toNat_natCast] at hg
 exact absurd hg hbad
theorem down_back {n : Nat} {l : List Arc} {f : List Int} {rows : List (List Stp)} {d nx : List Int} {s t v : Nat} {x : Stp} {W : List Stp} {P : Prop} (hl : nx.length = n) (h : Dn n l f rows (dOf d) s (dOf nx) v (x :: W)) (hfull : ((rows.getD v []).length : Int) ≤ dOf nx v) (hvt : v ≠ t) (hd : ∀ u, u < n → dOf d u ≤ n) (hD : P → Dead n l f rows (dOf d) t (dOf nx)) :
  ∃ (u i : Nat), u < n ∧ src l x = (u : Int) ∧ dOf nx u = (i : Int) ∧ i < (rows.getD u []).length ∧ x ∈ rows.getD u [] ∧ (nx.set u ((i : Int) + 1)).length = n ∧ Dn n l f rows (dOf d) s (dOf (nx.set u ((i : Int) + 1))) u W ∧ (P → Dead n l f rows (dOf d) t (dOf (nx.set u ((i : Int) + 1)))) ∧ mu n rows (dOf d) (dOf (nx.set u ((i : Int) + 1))) u < mu n rows (dOf d) (dOf nx) v := by
 obtain ⟨u, hu, h1, h2, h3, h4, h5, h6, h7⟩ := h.retreat
 obtain ⟨i, hi⟩ := Int.eq_ofNat_of_zero_le h4
 have hi' : dOf nx u = (i : Int) := hi
 have e : dOf (nx.set u ((i : Int) + 1)) = upd (dOf nx) u (dOf nx u + 1) := by rw [dOf_set (by omega), hi']
 rw [hi', Int.toNat_natCast] at h6
 refine ⟨u, i, hu, h1, hi', by omega, by rw [← h6]; exact getD_mem (by omega) _, by rw [List.length_set]; exact hl, by rw [e]; exact h7, fun hp => ?_, by rw [e]; exact mu_step hu h7.nb (by omega) (hd u hu)⟩
 rw [e]
 refine dead_skip (hD hp) (by omega) (fun _ => ?_)
 rw [hi', Int.toNat_natCast, h6, h2, Int.toNat_natCast]
 exact dead_done (hD hp) h.vn hfull hvt
theorem down_go {n : Nat} {l : List Arc} {f : List Int} {rows : List (List Stp)} {d nx : List Int} {s v w i : Nat} {x : Stp} {W : List Stp} (hn : NetOk n l) (hr : RowsOk n l rows) (h : Dn n l f rows (dOf d) s (dOf nx) v W) (hi : dOf nx v = (i : Int)) (hil : i < (rows.getD v []).length) (hx : (rows.getD v []).getD i ⟨0, false⟩ = x)
  (hw : tgt l x = (w : Int)) (h0 : 0 < rmv l f x) (he : dOf d w = dOf d v + 1) (hd : dOf d w ≤ n) : Dn n l f rows (dOf d) s (dOf nx) w (x :: W) ∧ mu n rows (dOf d) (dOf nx) w < mu n rows (dOf d) (dOf nx) v :=
 ⟨h.advance hn hr (by omega) (by rw [hi, Int.toNat_natCast]; exact hx) hw h0 he, mu_adv h.nb he hd⟩
def ReadOk (w : World) (gn : Nat) (A : Option Addr) (l : List Arc) (Af : Option Addr) (f : List Int) (g n : Nat) (rows : List (List Stp)) : Prop :=
 ∀ W, Kept w W (fun k => k = gn) → Kd.C k48 W A l.length l ∧ Kd.C (Kd.int .i64) W Af f.length f ∧ ∃ base, Kd.S kSteps 103 W base (fun _ => True) (.slice (some ⟨g, 0, none⟩) n n) rows
structure DI (w0 : World) (xs : Array Value) (gx gd gn : Nat) (d nx : List Int) (vw : Value) (way : List Stp) (W : World) : Prop where
 bx : W.heap[gx]? = some (.cells xs 117 (0, 0))
 bd : IntBlk W gd d
 bn : IntBlk W gn nx
 row : Kd.R kStep 105 W w0.heap.size (fun k => w0.heap.size ≤ k) vw way
 kept : Kept w0 W (fun k => k = gn)
 stay : Stay w0 W
 xl : gx < w0.heap.size
 dl : gd < w0.heap.size
 nl : gn < w0.heap.size
 xn : gx ≠ gn
 dn : gd ≠ gn
section
variable {w0 : World} {xs : Array Value} {gx gd gn : Nat} {d nx : List Int} {vw : Value} {way : List Stp} {W W1 : World}
theorem DI.below (h : DI w0 xs gx gd gn d nx vw way W) (hb : Below W.heap.size W W1) : DI w0 xs gx gd gn d nx vw way W1 :=
 ⟨blk_below h.bx hb, blk_below h.bd hb, blk_below h.bn hb, Kd.R_below h.row hb, h.kept.below hb, h.stay.then_ (Stay.of_below hb), h.xl, h.dl, h.nl, h.xn, h.dn⟩
theorem DI.setn (h : DI w0 xs gx gd gn d nx vw way W) (i : Nat) (v : Int) : DI w0 xs gx gd gn d (nx.set i v) vw way (W.setCell ⟨gn, i, none⟩ (.int .i64 v)) := by
 have hk : Kept W (W.setCell ⟨gn, i, none⟩ (.int .i64 v)) (fun k => k = gn) := Kept.setCell (S := fun k => k = gn) (p := ⟨gn, i, none⟩) (Kept.refl W _) (Or.inl rfl) _
 exact ⟨blk_kept h.bx hk h.xn, h.bd.kept hk h.dn, h.bn.set i v, Kd.R_far (p := ⟨gn, i, none⟩) h.row (fun k hk => by have := h.nl; show k ≠ gn; omega) _, h.kept.then_ hk (fun k e => .inl e), h.stay.then_ ⟨rfl, rfl, rfl⟩, h.xl, h.dl, h.nl, h.xn, h.dn⟩
theorem DI.pushed (h : DI w0 xs gx gd gn d nx vw way W) {v1 : Value} {way1 : List Stp} (hg : W.grownBy W1 vw.ownBlock) (hR : Kd.R kStep 105 W1 w0.heap.size (fun k => w0.heap.size ≤ k) v1 way1) : DI w0 xs gx gd gn d nx v1 way1 W1 := by
 have hne : ∀ k, k < w0.heap.size → some k ≠ vw.ownBlock := fun k hk e => by have := h.row.1 k e.symm; omega
 have hk : Kept W W1 (fun k => w0.heap.size ≤ k) := ⟨hg.size, fun k hl hn => hg.block k hl (fun e => hn (h.row.1 k e.symm))⟩
 exact ⟨blk_grown h.bx hg (hne gx h.xl), blk_grown h.bd hg (hne gd h.dl), blk_grown h.bn hg (hne gn h.nl), hR, h.kept.then_ hk (fun k e => .inr e), h.stay.then_ ⟨hg.os, hg.tape, hg.output⟩, h.xl, h.dl, h.nl, h.xn, h.dn⟩
theorem DI.cut (h : DI w0 xs gx gd gn d nx vw way W) {A : Option Addr} {n c m : Nat} (e : vw = .slice A n c) (hm : m ≤ way.length) : DI w0 xs gx gd gn d nx (.slice A m c) (way.take m) W := by
 subst e
 exact ⟨h.bx, h.bd, h.bn, Kd.R_take h.row hm, h.kept, h.stay, h.xl, h.dl, h.nl, h.xn, h.dn⟩
end
theorem row_empty {W : World} {g base : Nat} {ok : Nat → Prop} (hb : W.heap[g]? = some (.cells #[] 105 (0, 0))) (hg : base ≤ g) (hok : ok g) : Kd.R kStep 105 W base ok (.slice (some ⟨g, 0, none⟩) 0 0) [] := by
 refine ⟨fun k hk => ?_, [], ⟨rfl, .inr ⟨g, 0, #[], rfl, hg, hb, Nat.le_refl _, by decide, rfl, rfl⟩⟩, ⟨rfl, fun j p hj => by simp at hj⟩⟩
 have : k = g := by simpa [Value.ownBlock, eq_comm] using hk
 subst this
 exact hok
theorem rows_at {w : World} {gn : Nat} {A : Option Addr} {l : List Arc} {Af : Option Addr} {f : List Int} {g n : Nat} {rows : List (List Stp)} {nx : List Int} (h : ReadOk w gn A l Af f g n rows) (hbn : IntBlk w gn nx) (hl : rows.length = n) {v : Nat} (hv : v < n) :
  ∃ Ar cr base, ∀ W, Kept w W (fun k => k = gn) → W.cell? ⟨g, v, none⟩ = some (.slice Ar (rows.getD v []).length cr) ∧ Kd.R kStep 105 W base (fun _ => True) (.slice Ar (rows.getD v []).length cr) (rows.getD v []) := by
 obtain ⟨_, _, base, hS⟩ := h w (Kept.refl _ _)
 obtain ⟨Ar, cr, hat, hR⟩ := steps_at hS v (by omega)
 refine ⟨Ar, cr, base, fun W hk => ⟨?_, ?_⟩⟩
 ·obtain ⟨cs, hcs⟩ := Kd.S_typed hS g (by simp [Value.ownBlock])
  have hne : g ≠ gn := blk_ne hcs hbn (by decide)
  have h1 := hk.2 g (blk_lt hcs) hne
  have h2 : W.cell? ⟨g, v, none⟩ = w.cell? ⟨g, v, none⟩ := by
   simp only [World.cell?]
   rw [h1]
  rw [h2]
  exact hat
 ·refine Kd.R_mono (Kd.R_step (Kd.R_bound hR) (fun k hk2 hlt => hk.2 k hlt (fun e => ?_))) (fun _ _ => trivial)
  subst e
  obtain ⟨_, _, _, q, hq, cells, hc⟩ := hk2
  have hq2 : q ≠ 3 := by
   intro e
   subst e
   revert hq
   decide
  exact blk_ne hc hbn hq2 rfl
set_option linter.unusedVariables false
set_option linter.unusedSimpArgs false
set_option maxHeartbeats 4000000 in
set_option maxRecDepth 100000 in
theorem down_walk (n s t : Nat) (b : Bool) (A : Option Addr) (c : Nat) (l : List Arc) (Af : Option Addr) (cf : Nat) (f : List Int) (g gx gd gn : Nat) (rows : List (List Stp)) (d nx : List Int) (w : World) (hn : NetOk n l) (hf : FlowOk l f) (hr : RowsOk n l rows) (hs : s < n) (ht : t < n) (hst : s ≠ t)
  (hlc : l.length ≤ c) (hfc : f.length ≤ cf) (hro : ReadOk w gn A l Af f g n rows)
  (hbx : w.heap[gx]? = some (.cells #[.int .i64 n, .bool b, .slice A l.length c, .slice Af f.length cf, .slice (some ⟨g, 0, none⟩) n n, .slice (some ⟨gd, 0, none⟩) n n, .slice (some ⟨gn, 0, none⟩) n n] 117 (0, 0)))
  (hbd : IntBlk w gd d) (hbn : IntBlk w gn nx) (hdl : d.length = n) (hnl : nx.length = n) (hdn : gd ≠ gn) (hxn : gx ≠ gn) (hd0 : dOf d s = 0) (hdh : ∀ u, u < n → dOf d u ≤ n) (hnb : ∀ u, u < n → 0 ≤ dOf nx u ∧ dOf nx u ≤ ((rows.getD u []).length : Int)) :
  Calls Try.prog 78 #[.pointer (some ⟨gx, 0, none⟩), .int .i64 s, .int .i64 t] w fun e w' => ∃ (nx' : List Int), IntBlk w' gn nx' ∧ nx'.length = n ∧ (∀ u, u < n → 0 ≤ dOf nx' u ∧ dOf nx' u ≤ ((rows.getD u []).length : Int)) ∧ Kept w w' (fun k => k = gn) ∧ Stay w w' ∧
   ((e = .returned (.tuple #[.slice none 0 0, .bool false]) ∧ (Dead n l f rows (dOf d) t (dOf nx) → ¬ Alive l f rows (dOf d) t s)) ∨
    (∃ (vw : Value) (way : List Stp), e = .returned (.tuple #[vw, .bool true]) ∧ Kd.R kStep 105 w' w.heap.size (fun k => w.heap.size ≤ k) vw way ∧ WayOk n l f (dOf d) s t way ∧ way.length ≤ n)) := by
 have HN := zh hn
 have HF := zh hf
 have HR := zh hr
 have HLC := zh hlc
 have HFC := zh hfc
 have HRO := zh hro
 have HDL := zh hdl
 have HNL := zh hnl
 have HD0 := zh hd0
 have HDH := zh hdh
 have n0 := hn.n0
 have n1 := hn.n1
 have HST := zh hst
 have HBN := zh hbn
 have HDI : Hid (DI w #[.int .i64 n, .bool b, .slice A l.length c, .slice Af f.length cf, .slice (some ⟨g, 0, none⟩) n n, .slice (some ⟨gd, 0, none⟩) n n, .slice (some ⟨gn, 0, none⟩) n n] gx gd gn d nx (.slice none 0 0) [] w) := zh ⟨hbx, hbd, hbn, Kd.R_nil _ _ _ _ _, Kept.refl _ _, ⟨rfl, rfl, rfl⟩, blk_lt hbx, blk_lt hbd, blk_lt hbn, hxn, hdn⟩
 have HDN : Hid (Dn n l f rows (dOf d) s (dOf nx) s []) := zh ⟨hnb, hs, rfl⟩
 clear hn hf hr hlc hfc hro hbx hbd hbn hdl hnl hd0 hdh hnb hst
 have hu := Try.underlying28
 have hu2 := Try.underlying87
 have hu3 := Try.underlying117
 go_enter Try.func78, Try.ntmps78
 go_wp2
 go_step3
 go_wp2
 go_step3
 go_wp2
 have HD1 : Hid (DI w #[.int .i64 n, .bool b, .slice A l.length c, .slice Af f.length cf, .slice (some ⟨g, 0, none⟩) n n, .slice (some ⟨gd, 0, none⟩) n n, .slice (some ⟨gn, 0, none⟩) n n] gx gd gn d nx (.slice (some ⟨w.heap.size, 0, none⟩) 0 0) [] (w.alloc (.cells #[] 105))) := zh (by
  have h1 := HDI.out.below (below_alloc (Below.refl _ _) (.cells #[] 105))
  exact ⟨h1.bx, h1.bd, h1.bn, row_empty (heap_alloc_new _ _) (Nat.le_refl _) (Nat.le_refl _), h1.kept, h1.stay, h1.xl, h1.dl, h1.nl, h1.xn, h1.dn⟩)
 clear HDI
 go_loopg [8, 9] (mu n rows (dOf d) (dOf nx) s + 1) (fun k wv vv W => ∃ (v : Nat) (W2 : List Stp) (nx2 : List Int), vv = .int .i64 v ∧ Hid (DI w #[.int .i64 n, .bool b, .slice A l.length c, .slice Af f.length cf, .slice (some ⟨g, 0, none⟩) n n, .slice (some ⟨gd, 0, none⟩) n n, .slice (some ⟨gn, 0, none⟩) n n] gx gd gn d nx2 wv W2.reverse W) ∧ Hid (nx2.length = n) ∧ Hid (Dn n l f rows (dOf d) s (dOf nx2) v W2) ∧ Hid (Dead n l f rows (dOf d) t (dOf nx) → Dead n l f rows (dOf d) t (dOf nx2)) ∧ mu n rows (dOf d) (dOf nx2) v < k)
 case atStart => exact ⟨s, [], nx, rfl, HD1, HNL, HDN, zh id, Nat.lt_succ_self _⟩
 case round =>
  obtain ⟨v, W2, nx2, rfl, HI, HL2, HN2, HDD, hk⟩ := hrel
  clear HD1 HDN
  by_cases hvt : v = t
  ·subst hvt
   have z1 : ((v : Int) != (v : Int)) = false := by simp
   have z2 : ((v : Int) == (v : Int)) = true := by simp
   go_wp2
   rw [Exit.noGoto_ret]
   go_ret2
   refine ⟨nx2, HI.out.bn, HL2.out, HN2.out.nb, HI.out.kept, HI.out.stay, .inr ⟨_, W2.reverse, rfl, HI.out.row, rpath_way HR.out W2 v HN2.out.path, ?_⟩⟩
   have h1 := rpath_level HD0.out W2 v HN2.out.path
   have h2 := HDH.out v HN2.out.vn
   rw [List.length_reverse]
   omega
  ·have hvn := HN2.out.vn
   have z1 : ((v : Int) != (t : Int)) = true := bne_iff_ne.mpr (by omega)
   have z2 : ((v : Int) == (t : Int)) = false := beq_eq_false_iff_ne.mpr (by omega)
   obtain ⟨Ar, cr, base, hra⟩ := rows_at HRO.out HBN.out HR.out.len hvn
   have HRA := zh hra
   obtain ⟨row, hrw⟩ : ∃ row, row = rows.getD v [] := ⟨_, rfl⟩
   have HRW := zh hrw
   have HRA2 : Hid (∀ W, Kept w W (fun k => k = gn) → W.cell? ⟨g, v, none⟩ = some (.slice Ar row.length cr) ∧ Kd.R kStep 105 W base (fun _ => True) (.slice Ar row.length cr) row) := zh (by rw [hrw]; exact hra)
   obtain ⟨Aw, cw, hwv⟩ := Kd.R_slice HI.out.row
   rw [List.length_reverse] at hwv
   subst hwv
   have v0 : (0 : Int) ≤ (v : Int) := by omega
   have v1 : (v : Int) < (n : Int) := by omega
   have x0 : wr.cell? ⟨gx, 0, none⟩ = some (.int .i64 n) := (blk_cell HI.out.bx 0).trans rfl; have x1 : wr.cell? ⟨gx, 1, none⟩ = some (.bool b) := (blk_cell HI.out.bx 1).trans rfl; have x2 : wr.cell? ⟨gx, 2, none⟩ = some (.slice A l.length c) := (blk_cell HI.out.bx 2).trans rfl; have x3 : wr.cell? ⟨gx, 3, none⟩ = some (.slice Af f.length cf) := (blk_cell HI.out.bx 3).trans rfl; have x4 : wr.cell? ⟨gx, 4, none⟩ = some (.slice (some ⟨g, 0, none⟩) n n) := (blk_cell HI.out.bx 4).trans rfl
   clear hra hrw
   go_wp2_with (go_at_call 92; refine (steps_walk n v b A l.length c Af f.length cf g row.length cr Ar _ hvn ?s1).mono ?_; (case s1 => exact (HRA2.out _ (HI.out.kept.below zD)).1); rintro e w5 ⟨rfl, hb⟩; have HI5 := zh (HI.out.below hb); clear hb)
   clear x0 x1 x2 x3 x4 HI
   go_loopg [8, 9] gk (fun k v8 v9 W => ∃ (nx3 : List Int), v8 = .slice Aw W2.length cw ∧ v9 = .int .i64 v ∧ Hid (DI w #[.int .i64 n, .bool b, .slice A l.length c, .slice Af f.length cf, .slice (some ⟨g, 0, none⟩) n n, .slice (some ⟨gd, 0, none⟩) n n, .slice (some ⟨gn, 0, none⟩) n n] gx gd gn d nx3 (.slice Aw W2.length cw) W2.reverse W) ∧ Hid (nx3.length = n) ∧ Hid (Dn n l f rows (dOf d) s (dOf nx3) v W2) ∧ Hid (Dead n l f rows (dOf d) t (dOf nx) → Dead n l f rows (dOf d) t (dOf nx3)) ∧ mu n rows (dOf d) (dOf nx3) v < k ∧ k ≤ gk)
   case atStart => exact ⟨nx2, rfl, rfl, HI5, HL2, HN2, HDD, hk, Nat.le_refl _⟩
   case round =>
    obtain ⟨nx3, rfl, rfl, HI, HL3, HN3, HD3, hk3, hkk⟩ := hrel
    clear HI5 HL2 HN2 HDD hk
    obtain ⟨hb0, hb1⟩ := HN3.out.nb v hvn
    obtain ⟨i, hi⟩ : ∃ i : Nat, dOf nx3 v = (i : Int) := Int.eq_ofNat_of_zero_le hb0
    have HIV := zh hi
    have nv : wr.cell? ⟨gn, v, none⟩ = some (.int .i64 (i : Int)) := by
     have h9 := HI.out.bn.cell v (by rw [HL3.out]; exact hvn)
     rw [h9]
     have h8 : rd nx3 (v : Int) = (i : Int) := hi
     rw [h8]
    have nf : wr.frozen? ⟨gn, v, none⟩ = false := HI.out.bn.free v
    rw [hi, ← HRW.out] at hb1
    clear hi hb0
    have x0 : wr.cell? ⟨gx, 0, none⟩ = some (.int .i64 n) := (blk_cell HI.out.bx 0).trans rfl; have x1 : wr.cell? ⟨gx, 1, none⟩ = some (.bool b) := (blk_cell HI.out.bx 1).trans rfl; have x2 : wr.cell? ⟨gx, 2, none⟩ = some (.slice A l.length c) := (blk_cell HI.out.bx 2).trans rfl; have x3 : wr.cell? ⟨gx, 3, none⟩ = some (.slice Af f.length cf) := (blk_cell HI.out.bx 3).trans rfl; have x4 : wr.cell? ⟨gx, 4, none⟩ = some (.slice (some ⟨g, 0, none⟩) n n) := (blk_cell HI.out.bx 4).trans rfl; have x5 : wr.cell? ⟨gx, 5, none⟩ = some (.slice (some ⟨gd, 0, none⟩) n n) := (blk_cell HI.out.bx 5).trans rfl; have x6 : wr.cell? ⟨gx, 6, none⟩ = some (.slice (some ⟨gn, 0, none⟩) n n) := (blk_cell HI.out.bx 6).trans rfl
    by_cases hil : i < row.length
    ·have c1 : (i : Int) < (row.length : Int) := by omega
     have c0 : (0 : Int) ≤ (i : Int) := by omega
     obtain ⟨x, hx⟩ : ∃ x, x = row.getD i ⟨0, false⟩ := ⟨_, rfl⟩
     have hxm : x ∈ row := by rw [hx]; exact getD_mem hil _
     obtain ⟨hx0, hx1, hxs⟩ := HR.out.row v hvn x (by rw [← HRW.out]; exact hxm)
     obtain ⟨ga, ea, hga, y0, y1⟩ := step_cells (HRA2.out _ HI.out.kept).2 i hil
     subst ea
     rw [← hx] at y0 y1
     obtain ⟨t1, ht1⟩ : ∃ t1 : Nat, tgt l x = (t1 : Int) := Int.eq_ofNat_of_zero_le (tgt_ok HN.out hx0 hx1).1
     have htn : t1 < n := by have := (tgt_ok HN.out hx0 hx1).2; omega
     have htf := (to_f n b l f x hx0 hx1).trans (by rw [ht1])
     have hrf := room_f b HN.out HF.out x hx0 hx1
     obtain ⟨rm, hrm⟩ : ∃ rm, rm = rmv l f x := ⟨_, rfl⟩
     rw [← hrm] at hrf
     have HX := zh hx
     have HXM := zh hxm
     have HT := zh ht1
     have HTF := zh htf
     have HRF := zh hrf
     have HRM := zh hrm
     have HX0 := zh hx0
     have HX1 := zh hx1
     clear hx hxm hx0 hx1 hxs ht1 htf hrf hrm
     go_wp2_with ((with_reducible refine gate_dst (N := 11) rfl ?_); refine box_event ?hg (N := 11) ?hd (cs := #[.int .i64 0, .bool false]) (t := 105) ?hr ?_; (case hd => rfl); (case hg => rfl); (case hr => first | (go_simp; done) | (go_simp; rfl)); intro gs hg w17 hbox hb; have hgs : wr.heap.size ≤ gs := Nat.le_of_eq hg.symm; have hgx : gx ≠ gs := (by have := blk_lt HI.out.bx; omega); have hgd : gd ≠ gs := (by have := blk_lt HI.out.bd; omega); have hgn : gn ≠ gs := (by have := blk_lt HI.out.bn; omega); have HBX := zh hbox; have HB17 := zh hb; have HGS := zh hgs; have s0 : w17.cell? ⟨gs, 0, none⟩ = some (.int .i64 0) := (blk_cell hbox 0).trans rfl; have s1 : w17.cell? ⟨gs, 1, none⟩ = some (.bool false) := (blk_cell hbox 1).trans rfl; have f0 := blk_frozen hbox 0; have f1 := blk_frozen hbox 1; clear hbox hb hg hgs)
     have HB8 : Below wr.heap.size wr ((w17.setCell ⟨gs, 0, none⟩ (.int .i64 x.f0)).setCell ⟨gs, 1, none⟩ (.bool x.f1)) := below_set (below_set HB17.out HGS.out) HGS.out
     have HS8 : ((w17.setCell ⟨gs, 0, none⟩ (.int .i64 x.f0)).setCell ⟨gs, 1, none⟩ (.bool x.f1)).heap[gs]? = some (.cells #[.int .i64 x.f0, .bool x.f1] 105 (0, 0)) := blk_put (cs := #[.int .i64 x.f0, .bool false]) (blk_put (cs := #[.int .i64 0, .bool false]) HBX.out 0 (.int .i64 x.f0) rfl) 1 (.bool x.f1) rfl
     generalize ((w17.setCell ⟨gs, 0, none⟩ (.int .i64 x.f0)).setCell ⟨gs, 1, none⟩ (.bool x.f1)) = W8 at HB8 HS8 ⊢
     have HI8 := zh (HI.out.below HB8)
     have s0' : W8.cell? ⟨gs, 0, none⟩ = some (.int .i64 x.f0) := (blk_cell HS8 0).trans rfl
     have s1' : W8.cell? ⟨gs, 1, none⟩ = some (.bool x.f1) := (blk_cell HS8 1).trans rfl
     have hS8 := zh HS8
     clear s0 s1 f0 f1 HBX HB17 HGS HS8 HB8 x0 x1 x2 x3 x4 x5 x6 nv nf y0 y1
     have x0 : W8.cell? ⟨gx, 0, none⟩ = some (.int .i64 n) := (blk_cell HI8.out.bx 0).trans rfl; have x1 : W8.cell? ⟨gx, 1, none⟩ = some (.bool b) := (blk_cell HI8.out.bx 1).trans rfl; have x2 : W8.cell? ⟨gx, 2, none⟩ = some (.slice A l.length c) := (blk_cell HI8.out.bx 2).trans rfl; have x3 : W8.cell? ⟨gx, 3, none⟩ = some (.slice Af f.length cf) := (blk_cell HI8.out.bx 3).trans rfl
     go_region_held3 (fun w' => w'.cell? ⟨gx, 0, none⟩ = some (.int .i64 n) ∧ w'.cell? ⟨gx, 1, none⟩ = some (.bool b) ∧ w'.cell? ⟨gx, 2, none⟩ = some (.slice A l.length c) ∧ w'.cell? ⟨gx, 3, none⟩ = some (.slice Af f.length cf) ∧ w'.cell? ⟨gs, 0, none⟩ = some (.int .i64 x.f0) ∧ w'.cell? ⟨gs, 1, none⟩ = some (.bool x.f1)) (first | go_keep | (refine (fun (h : _ ∧ _ ∧ _ ∧ _ ∧ _ ∧ _) => ⟨pw_cell_below hb (h.1), pw_cell_below hb (h.2.1), pw_cell_below hb (h.2.2.1), pw_cell_below hb (h.2.2.2.1), pw_cell_below hb (h.2.2.2.2.1), pw_cell_below hb (h.2.2.2.2.2)⟩) ?_; assumption)) ((go_at_call 65; refine (static_Flowing_To.calls n b A c l Af cf f x.f0 x.f1 t1 _ ?s1 HLC.out ?s2 HFC.out HTF.out).mono ?_; (case s1 => exact (HRO.out _ (HI8.out.kept.below zD)).1); (case s2 => exact (HRO.out _ (HI8.out.kept.below zD)).2.1); rintro e w18 ⟨rfl, hb⟩; have HI9 := zh (HI8.out.below (below_step zD hb)); have hS9 : Hid (w18.heap[gs]? = some (.cells #[.int .i64 x.f0, .bool x.f1] 105 (0, 0))) := zh (blk_below (by repeat (first | (with_reducible exact hS8.out) | refine blk_drew ?_)) hb)))
     have hdt : w18.cell? ⟨gd, t1, none⟩ = some (.int .i64 (rd d (t1 : Int))) := HI9.out.bd.cell t1 (by rw [HDL.out]; exact htn)
     have hdv : w18.cell? ⟨gd, v, none⟩ = some (.int .i64 (rd d (v : Int))) := HI9.out.bd.cell v (by rw [HDL.out]; exact hvn)
     have g0 : w18.cell? ⟨gs, 0, none⟩ = some (.int .i64 x.f0) := (blk_cell hS9.out 0).trans rfl
     have g1 : w18.cell? ⟨gs, 1, none⟩ = some (.bool x.f1) := (blk_cell hS9.out 1).trans rfl
     have t0' : (0 : Int) ≤ (t1 : Int) := by omega
     have t1' : (t1 : Int) < (n : Int) := by omega
     have hlv := rpath_level HD0.out W2 v HN3.out.path
     have hdh := HDH.out v hvn
     have hw1 : wrap64 (rd d (v : Int) + 1) = rd d (v : Int) + 1 := by
      unfold dOf at hdh hlv
      unfold wrap64
      omega
     have hw2 : IntKind.i64.wrap (rd d (v : Int) + 1) = rd d (v : Int) + 1 := IntWalk.i64_in _ (by unfold dOf at hdh hlv; omega)
     have hrm0 := (room_ok HN.out HF.out HX0.out HX1.out).1
     rw [← HRM.out] at hrm0
     have hcase : ((rd d (t1 : Int) == rd d (v : Int) + 1) = false ∧ ¬ (rd d (t1 : Int) = rd d (v : Int) + 1)) ∨ ((rd d (t1 : Int) == rd d (v : Int) + 1) = true ∧ ¬ (0 < rm)) ∨ ((rd d (t1 : Int) == rd d (v : Int) + 1) = true ∧ 0 < rm) := by
      by_cases h1 : rd d (t1 : Int) = rd d (v : Int) + 1
      ·by_cases h2 : 0 < rm
       ·exact .inr (.inr ⟨by simp [h1], h2⟩)
       ·exact .inr (.inl ⟨by simp [h1], h2⟩)
      ·exact .inl ⟨by simp [h1], h1⟩
     clear s0' s1' x0 x1 x2 x3 hlv hdh hrm0
     have x0 : w18.cell? ⟨gx, 0, none⟩ = some (.int .i64 n) := (blk_cell HI9.out.bx 0).trans rfl; have x1 : w18.cell? ⟨gx, 1, none⟩ = some (.bool b) := (blk_cell HI9.out.bx 1).trans rfl; have x2 : w18.cell? ⟨gx, 2, none⟩ = some (.slice A l.length c) := (blk_cell HI9.out.bx 2).trans rfl; have x3 : w18.cell? ⟨gx, 3, none⟩ = some (.slice Af f.length cf) := (blk_cell HI9.out.bx 3).trans rfl; have x5 : w18.cell? ⟨gx, 5, none⟩ = some (.slice (some ⟨gd, 0, none⟩) n n) := (blk_cell HI9.out.bx 5).trans rfl
     go_wp2
     rcases hcase with ⟨hq, hq2⟩ | ⟨hq, hq2⟩ | ⟨hq, hq2⟩
     ·have HQ2 := zh hq2
      clear hq2
      refine start_ (n := 26) (S := fun w' => w'.cell? ⟨gx, 5, none⟩ = some (.slice (some ⟨gd, 0, none⟩) n n) ∧ w'.cell? ⟨gd, t1, none⟩ = some (.int .i64 (rd d (t1 : Int))) ∧ w'.cell? ⟨gd, v, none⟩ = some (.int .i64 (rd d (v : Int)))) (ds := []) #[false, false, false, false, false, false, false, false, false, false, false, false, false, false, false, false, false, false, false, false, false, false, false, false, false, false] (by kernel_rfl) rfl rfl ⟨x5, hdt, hdv⟩ (fun hHeld => ?_)
      refine pure_ (i := 0) (N := some 61) (v := ?_) (a' := ?_) #[true, false, false, false, false, false, false, false, false, false, false, false, false, false, false, false, false, false, false, false, false, false, false, false, false, false] rfl rfl (by kernel_rfl) (fun _ _ _ h => h) (Or.inl ⟨by rfl, ?_⟩) ?_ ?_
      rotate_left
      ·intro w'
       go_simp
       with_reducible rfl
      rotate_left
      ·simp only [Act.put, List.setIfInBounds_toArray, List.set_cons_zero, List.set_cons_succ, i64_w, i32_w]
       rfl
      refine pure_ (i := 1) (N := some 62) (v := ?_) (a' := ?_) #[true, true, false, false, false, false, false, false, false, false, false, false, false, false, false, false, false, false, false, false, false, false, false, false, false, false] rfl rfl (by kernel_rfl) (fun _ _ _ h => h) (Or.inl ⟨by rfl, ?_⟩) ?_ ?_
      rotate_left
      ·intro w'
       go_simp
       with_reducible rfl
      rotate_left
      ·simp only [Act.put, List.setIfInBounds_toArray, List.set_cons_zero, List.set_cons_succ, i64_w, i32_w]
       rfl
      refine pure_ (i := 2) (N := some 63) (v := ?_) (a' := ?_) #[true, true, true, false, false, false, false, false, false, false, false, false, false, false, false, false, false, false, false, false, false, false, false, false, false, false] rfl rfl (by kernel_rfl) (fun _ _ _ h => h) (Or.inl ⟨by rfl, ?_⟩) ?_ ?_
      rotate_left
      ·intro w'
       go_simp
       with_reducible rfl
      rotate_left
      ·simp only [Act.put, List.setIfInBounds_toArray, List.set_cons_zero, List.set_cons_succ, i64_w, i32_w]
       rfl
      refine take_ (i := 3) (N := some 64) (v := ?_) (a' := ?_) #[true, true, true, true, false, false, false, false, false, false, false, false, false, false, false, false, false, false, false, false, false, false, false, false, false, false] rfl rfl (by kernel_rfl) (fun _ _ _ h => h) (Or.inl ⟨by rfl, ?_⟩) hHeld ?_ ?_
      rotate_left
      ·rintro w' ⟨s0, s1, s2⟩
       go_simp
       with_reducible rfl
      rotate_left
      ·simp only [Act.put, List.setIfInBounds_toArray, List.set_cons_zero, List.set_cons_succ, i64_w, i32_w]
       rfl
      refine pure_ (i := 4) (N := some 65) (v := ?_) (a' := ?_) #[true, true, true, true, true, false, false, false, false, false, false, false, false, false, false, false, false, false, false, false, false, false, false, false, false, false] rfl rfl (by kernel_rfl) (fun _ _ _ h => h) (Or.inl ⟨by rfl, ?_⟩) ?_ ?_
      rotate_left
      ·intro w'
       go_simp
       with_reducible rfl
      rotate_left
      ·simp only [Act.put, List.setIfInBounds_toArray, List.set_cons_zero, List.set_cons_succ, i64_w, i32_w]
       rfl
      refine pure_ (i := 5) (N := some 66) (v := ?_) (a' := ?_) #[true, true, true, true, true, true, false, false, false, false, false, false, false, false, false, false, false, false, false, false, false, false, false, false, false, false] rfl rfl (by kernel_rfl) (fun _ _ _ h => h) (Or.inl ⟨by rfl, ?_⟩) ?_ ?_
      rotate_left
      ·intro w'
       go_simp
       with_reducible rfl
      rotate_left
      ·simp only [Act.put, List.setIfInBounds_toArray, List.set_cons_zero, List.set_cons_succ, i64_w, i32_w]
       rfl
      refine take_ (i := 6) (N := some 67) (v := ?_) (a' := ?_) #[true, true, true, true, true, true, true, false, false, false, false, false, false, false, false, false, false, false, false, false, false, false, false, false, false, false] rfl rfl (by kernel_rfl) (fun _ _ _ h => h) (Or.inl ⟨by rfl, ?_⟩) hHeld ?_ ?_
      rotate_left
      ·rintro w' ⟨s0, s1, s2⟩
       go_simp
       with_reducible rfl
      rotate_left
      ·simp only [Act.put, List.setIfInBounds_toArray, List.set_cons_zero, List.set_cons_succ, i64_w, i32_w]
       rfl
      refine pure_ (i := 7) (N := some 68) (v := ?_) (a' := ?_) #[true, true, true, true, true, true, true, true, false, false, false, false, false, false, false, false, false, false, false, false, false, false, false, false, false, false] rfl rfl (by kernel_rfl) (fun _ _ _ h => h) (Or.inl ⟨by rfl, ?_⟩) ?_ ?_
      rotate_left
      ·intro w'
       go_simp
       with_reducible rfl
      rotate_left
      ·simp only [Act.put, List.setIfInBounds_toArray, List.set_cons_zero, List.set_cons_succ, i64_w, i32_w]
       rfl
      refine pure_ (i := 8) (N := some 69) (v := ?_) (a' := ?_) #[true, true, true, true, true, true, true, true, true, false, false, false, false, false, false, false, false, false, false, false, false, false, false, false, false, false] rfl rfl (by kernel_rfl) (fun _ _ _ h => h) (Or.inl ⟨by rfl, ?_⟩) ?_ ?_
      rotate_left
      ·intro w'
       go_simp
       with_reducible rfl
      rotate_left
      ·simp only [Act.put, List.setIfInBounds_toArray, List.set_cons_zero, List.set_cons_succ, i64_w, i32_w]
       rfl
      refine pure_ (i := 9) (N := some 70) (v := ?_) (a' := ?_) #[true, true, true, true, true, true, true, true, true, true, false, false, false, false, false, false, false, false, false, false, false, false, false, false, false, false] rfl rfl (by kernel_rfl) (fun _ _ _ h => h) (Or.inl ⟨by rfl, ?_⟩) ?_ ?_
      rotate_left
      ·intro w'
       go_simp
       with_reducible rfl
      rotate_left
      ·simp only [Act.put, List.setIfInBounds_toArray, List.set_cons_zero, List.set_cons_succ, i64_w, i32_w]
       rfl
      refine take_ (i := 10) (N := some 71) (v := ?_) (a' := ?_) #[true, true, true, true, true, true, true, true, true, true, true, false, false, false, false, false, false, false, false, false, false, false, false, false, false, false] rfl rfl (by kernel_rfl) (fun _ _ _ h => h) (Or.inl ⟨by rfl, ?_⟩) hHeld ?_ ?_
      rotate_left
      ·rintro w' ⟨s0, s1, s2⟩
       go_simp
       with_reducible rfl
      rotate_left
      ·simp only [Act.put, List.setIfInBounds_toArray, List.set_cons_zero, List.set_cons_succ, i64_w, i32_w]
       rfl
      refine pure_ (i := 11) (N := some 72) (v := ?_) (a' := ?_) #[true, true, true, true, true, true, true, true, true, true, true, true, false, false, false, false, false, false, false, false, false, false, false, false, false, false] rfl rfl (by kernel_rfl) (fun _ _ _ h => h) (Or.inl ⟨by rfl, ?_⟩) ?_ ?_
      rotate_left
      ·intro w'
       go_simp
       with_reducible rfl
      rotate_left
      ·simp only [Act.put, List.setIfInBounds_toArray, List.set_cons_zero, List.set_cons_succ, i64_w, i32_w]
       rfl
      refine pure_ (i := 12) (N := some 73) (v := ?_) (a' := ?_) #[true, true, true, true, true, true, true, true, true, true, true, true, true, false, false, false, false, false, false, false, false, false, false, false, false, false] rfl rfl (by kernel_rfl) (fun _ _ _ h => h) (Or.inl ⟨by rfl, ?_⟩) ?_ ?_
      rotate_left
      ·intro w'
       go_simp
       with_reducible rfl
      rotate_left
      ·simp only [Act.put, List.setIfInBounds_toArray, List.set_cons_zero, List.set_cons_succ, i64_w, i32_w]
       rfl
      refine take_ (i := 13) (N := some 74) (v := ?_) (a' := ?_) #[true, true, true, true, true, true, true, true, true, true, true, true, true, true, false, false, false, false, false, false, false, false, false, false, false, false] rfl rfl (by kernel_rfl) (fun _ _ _ h => h) (Or.inl ⟨by rfl, ?_⟩) hHeld ?_ ?_
      rotate_left
      ·rintro w' ⟨s0, s1, s2⟩
       go_simp
       with_reducible rfl
      rotate_left
      ·simp only [Act.put, List.setIfInBounds_toArray, List.set_cons_zero, List.set_cons_succ, i64_w, i32_w]
       rfl
      refine pure_ (i := 14) (N := some 75) (v := ?_) (a' := ?_) #[true, true, true, true, true, true, true, true, true, true, true, true, true, true, true, false, false, false, false, false, false, false, false, false, false, false] rfl rfl (by kernel_rfl) (fun _ _ _ h => h) (Or.inl ⟨by rfl, ?_⟩) ?_ ?_
      rotate_left
      ·intro w'
       go_simp
       with_reducible rfl
      rotate_left
      ·simp only [Act.put, List.setIfInBounds_toArray, List.set_cons_zero, List.set_cons_succ, i64_w, i32_w]
       rfl
      refine pure_ (i := 15) (N := some 76) (v := ?_) (a' := ?_) #[true, true, true, true, true, true, true, true, true, true, true, true, true, true, true, true, false, false, false, false, false, false, false, false, false, false] rfl rfl (by kernel_rfl) (fun _ _ _ h => h) (Or.inl ⟨by rfl, ?_⟩) ?_ ?_
      rotate_left
      ·intro w'
       go_simp
       with_reducible rfl
      rotate_left
      ·simp only [Act.put, List.setIfInBounds_toArray, List.set_cons_zero, List.set_cons_succ, i64_w, i32_w]
       rfl
      refine pure_ (i := 16) (N := some 77) (v := ?_) (a' := ?_) #[true, true, true, true, true, true, true, true, true, true, true, true, true, true, true, true, true, false, false, false, false, false, false, false, false, false] rfl rfl (by kernel_rfl) (fun _ _ _ h => h) (Or.inl ⟨by rfl, ?_⟩) ?_ ?_
      rotate_left
      ·intro w'
       go_simp
       with_reducible rfl
      rotate_left
      ·simp only [Act.put, List.setIfInBounds_toArray, List.set_cons_zero, List.set_cons_succ, i64_w, i32_w]
       rfl
      refine pure_ (i := 17) (N := some 78) (v := undef) (a' := ?_) #[true, true, true, true, true, true, true, true, true, true, true, true, true, true, true, true, true, true, false, false, false, false, false, false, false, false] rfl rfl (by kernel_rfl) (fun _ _ _ h => h) (Or.inr ⟨by rfl, rfl⟩) ?_ ?_
      rotate_left
      ·simp only [Act.put, List.setIfInBounds_toArray, List.set_cons_zero, List.set_cons_succ, i64_w, i32_w]
       rfl
      refine pure_ (i := 18) (N := some 79) (v := undef) (a' := ?_) #[true, true, true, true, true, true, true, true, true, true, true, true, true, true, true, true, true, true, true, false, false, false, false, false, false, false] rfl rfl (by kernel_rfl) (fun _ _ _ h => h) (Or.inr ⟨by rfl, rfl⟩) ?_ ?_
      rotate_left
      ·simp only [Act.put, List.setIfInBounds_toArray, List.set_cons_zero, List.set_cons_succ, i64_w, i32_w]
       rfl
      refine pure_ (i := 19) (N := some 80) (v := undef) (a' := ?_) #[true, true, true, true, true, true, true, true, true, true, true, true, true, true, true, true, true, true, true, true, false, false, false, false, false, false] rfl rfl (by kernel_rfl) (fun _ _ _ h => h) (Or.inr ⟨by rfl, rfl⟩) ?_ ?_
      rotate_left
      ·simp only [Act.put, List.setIfInBounds_toArray, List.set_cons_zero, List.set_cons_succ, i64_w, i32_w]
       rfl
      refine pure_ (i := 20) (N := some 81) (v := undef) (a' := ?_) #[true, true, true, true, true, true, true, true, true, true, true, true, true, true, true, true, true, true, true, true, true, false, false, false, false, false] rfl rfl (by kernel_rfl) (fun _ _ _ h => h) (Or.inr ⟨by rfl, rfl⟩) ?_ ?_
      rotate_left
      ·simp only [Act.put, List.setIfInBounds_toArray, List.set_cons_zero, List.set_cons_succ, i64_w, i32_w]
       rfl
      refine pure_ (i := 21) (N := some 82) (v := undef) (a' := ?_) #[true, true, true, true, true, true, true, true, true, true, true, true, true, true, true, true, true, true, true, true, true, true, false, false, false, false] rfl rfl (by kernel_rfl) (fun _ _ _ h => h) (Or.inr ⟨by rfl, rfl⟩) ?_ ?_
      rotate_left
      ·simp only [Act.put, List.setIfInBounds_toArray, List.set_cons_zero, List.set_cons_succ, i64_w, i32_w]
       rfl
      refine pure_ (i := 22) (N := some 83) (v := undef) (a' := ?_) #[true, true, true, true, true, true, true, true, true, true, true, true, true, true, true, true, true, true, true, true, true, true, true, false, false, false] rfl rfl (by kernel_rfl) (fun _ _ _ h => h) (Or.inr ⟨by rfl, rfl⟩) ?_ ?_
      rotate_left
      ·simp only [Act.put, List.setIfInBounds_toArray, List.set_cons_zero, List.set_cons_succ, i64_w, i32_w]
       rfl
      refine pure_ (i := 23) (N := some 84) (v := undef) (a' := ?_) #[true, true, true, true, true, true, true, true, true, true, true, true, true, true, true, true, true, true, true, true, true, true, true, true, false, false] rfl rfl (by kernel_rfl) (fun _ _ _ h => h) (Or.inr ⟨by rfl, rfl⟩) ?_ ?_
      rotate_left
      ·simp only [Act.put, List.setIfInBounds_toArray, List.set_cons_zero, List.set_cons_succ, i64_w, i32_w]
       rfl
      refine pure_ (i := 24) (N := some 85) (v := undef) (a' := ?_) #[true, true, true, true, true, true, true, true, true, true, true, true, true, true, true, true, true, true, true, true, true, true, true, true, true, false] rfl rfl (by kernel_rfl) (fun _ _ _ h => h) (Or.inr ⟨by rfl, rfl⟩) ?_ ?_
      rotate_left
      ·simp only [Act.put, List.setIfInBounds_toArray, List.set_cons_zero, List.set_cons_succ, i64_w, i32_w]
       rfl
      refine pure_ (i := 25) (N := some 86) (v := ?_) (a' := ?_) #[true, true, true, true, true, true, true, true, true, true, true, true, true, true, true, true, true, true, true, true, true, true, true, true, true, true] rfl rfl (by kernel_rfl) (fun _ _ _ h => h) (Or.inl ⟨by rfl, ?_⟩) ?_ ?_
      rotate_left
      ·intro w'
       go_simp
       with_reducible rfl
      rotate_left
      ·simp only [Act.put, List.setIfInBounds_toArray, List.set_cons_zero, List.set_cons_succ, i64_w, i32_w]
       rfl
      refine done_ (by kernel_rfl) ?_
      clear x0 x1 x2 x3 x5
      have hsk := down_skip (d := d) HL3.out HN3.out HIV.out (by rw [← HRW.out]; exact hil) (by rw [← HRW.out, ← HX.out]; exact fun hg => HQ2.out (by have h9 := hg.2; rw [HT.out, Int.toNat_natCast] at h9; exact h9)) (HDH.out v hvn) HD3.out
      have HSK := zh hsk
      have x6 : w18.cell? ⟨gx, 6, none⟩ = some (.slice (some ⟨gn, 0, none⟩) n n) := (blk_cell HI9.out.bx 6).trans rfl
      have nv : w18.cell? ⟨gn, v, none⟩ = some (.int .i64 (i : Int)) := by
       have h9 := HI9.out.bn.cell v (by rw [HL3.out]; exact hvn)
       rw [h9]
       have h8 : rd nx3 (v : Int) = (i : Int) := HIV.out
       rw [h8]
      have nf : w18.frozen? ⟨gn, v, none⟩ = false := HI9.out.bn.free v
      have HIB : Hid (i ≤ 4611686018427387904) := zh (by have := HR.out.short v; rw [← HRW.out] at this; omega)
      have hb2 : -9223372036854775808 ≤ (i : Int) + 1 ∧ (i : Int) + 1 ≤ 9223372036854775807 := by (have := HIB.out; omega)
      have hi1 : wrap64 ((i : Int) + 1) = (i : Int) + 1 := (w1n i HIB.out).trans (Int.natCast_add i 1)
      have hi2 : IntKind.i64.wrap ((i : Int) + 1) = (i : Int) + 1 := IntWalk.i64_in _ hb2
      clear hsk
      go_wp2
      go_roundg (mu n rows (dOf d) (dOf nx3) v)
      case measure => exact hk3
      case rel => exact ⟨nx3.set v ((i : Int) + 1), rfl, rfl, (by first | exact zh (HI9.out.setn v ((i : Int) + 1)) | exact zh ((HI9.out.setn v ((i : Int) + 1)).below (below_drew (Below.refl _ _)))), zh HSK.out.1, zh HSK.out.2.1, zh HSK.out.2.2.1, HSK.out.2.2.2, Nat.le_trans (Nat.le_of_lt hk3) hkk⟩
     ·have HQ2 := zh hq2
      go_region_held3 (fun w' => w'.cell? ⟨gx, 0, none⟩ = some (.int .i64 n) ∧ w'.cell? ⟨gx, 1, none⟩ = some (.bool b) ∧ w'.cell? ⟨gx, 2, none⟩ = some (.slice A l.length c) ∧ w'.cell? ⟨gx, 3, none⟩ = some (.slice Af f.length cf) ∧ w'.cell? ⟨gx, 5, none⟩ = some (.slice (some ⟨gd, 0, none⟩) n n) ∧ w'.cell? ⟨gs, 0, none⟩ = some (.int .i64 x.f0) ∧ w'.cell? ⟨gs, 1, none⟩ = some (.bool x.f1) ∧ w'.cell? ⟨gd, t1, none⟩ = some (.int .i64 (rd d (t1 : Int))) ∧ w'.cell? ⟨gd, v, none⟩ = some (.int .i64 (rd d (v : Int)))) (first | go_keep | (refine (fun (h : _ ∧ _ ∧ _ ∧ _ ∧ _ ∧ _ ∧ _ ∧ _ ∧ _) => ⟨pw_cell_below hb (h.1), pw_cell_below hb (h.2.1), pw_cell_below hb (h.2.2.1), pw_cell_below hb (h.2.2.2.1), pw_cell_below hb (h.2.2.2.2.1), pw_cell_below hb (h.2.2.2.2.2.1), pw_cell_below hb (h.2.2.2.2.2.2.1), pw_cell_below hb (h.2.2.2.2.2.2.2.1), pw_cell_below hb (h.2.2.2.2.2.2.2.2)⟩) ?_; assumption)) ((go_at_call 66; refine (static_Flowing_Room.calls n b A c l Af cf f x.f0 x.f1 rm _ ?s1 HLC.out ?s2 HFC.out HRF.out).mono ?_; (case s1 => exact (HRO.out _ (HI9.out.kept.below zD)).1); (case s2 => exact (HRO.out _ (HI9.out.kept.below zD)).2.1); rintro e w19 ⟨rfl, hb⟩; have HI10 := zh (HI9.out.below (below_step zD hb)); have hS10 : Hid (w19.heap[gs]? = some (.cells #[.int .i64 x.f0, .bool x.f1] 105 (0, 0))) := zh (blk_below (by repeat (first | (with_reducible exact hS9.out) | refine blk_drew ?_)) hb)))
      all_goals
       clear x0 x1 x2 x3 x5
       have hsk := down_skip (d := d) HL3.out HN3.out HIV.out (by rw [← HRW.out]; exact hil) (by rw [← HRW.out, ← HX.out]; exact fun hg => absurd (show 0 < rm by have h9 := hg.1; rw [← HRM.out] at h9; exact h9) (Int.not_lt.2 HQ2.out)) (HDH.out v hvn) HD3.out
       have HSK := zh hsk
       have x6 : w19.cell? ⟨gx, 6, none⟩ = some (.slice (some ⟨gn, 0, none⟩) n n) := (blk_cell HI10.out.bx 6).trans rfl
       have nv : w19.cell? ⟨gn, v, none⟩ = some (.int .i64 (i : Int)) := by
        have h9 := HI10.out.bn.cell v (by rw [HL3.out]; exact hvn)
        rw [h9]
        have h8 : rd nx3 (v : Int) = (i : Int) := HIV.out
        rw [h8]
       have nf : w19.frozen? ⟨gn, v, none⟩ = false := HI10.out.bn.free v
       have HIB : Hid (i ≤ 4611686018427387904) := zh (by have := HR.out.short v; rw [← HRW.out] at this; omega)
       have hb2 : -9223372036854775808 ≤ (i : Int) + 1 ∧ (i : Int) + 1 ≤ 9223372036854775807 := by (have := HIB.out; omega)
       have hi1 : wrap64 ((i : Int) + 1) = (i : Int) + 1 := (w1n i HIB.out).trans (Int.natCast_add i 1)
       have hi2 : IntKind.i64.wrap ((i : Int) + 1) = (i : Int) + 1 := IntWalk.i64_in _ hb2
       clear hsk
       go_wp2
       go_roundg (mu n rows (dOf d) (dOf nx3) v)
       case measure => exact hk3
       case rel => exact ⟨nx3.set v ((i : Int) + 1), rfl, rfl, (by first | exact zh (HI10.out.setn v ((i : Int) + 1)) | exact zh ((HI10.out.setn v ((i : Int) + 1)).below (below_drew (Below.refl _ _)))), zh HSK.out.1, zh HSK.out.2.1, zh HSK.out.2.2.1, HSK.out.2.2.2, Nat.le_trans (Nat.le_of_lt hk3) hkk⟩
     ·go_region_held3 (fun w' => w'.cell? ⟨gx, 0, none⟩ = some (.int .i64 n) ∧ w'.cell? ⟨gx, 1, none⟩ = some (.bool b) ∧ w'.cell? ⟨gx, 2, none⟩ = some (.slice A l.length c) ∧ w'.cell? ⟨gx, 3, none⟩ = some (.slice Af f.length cf) ∧ w'.cell? ⟨gx, 5, none⟩ = some (.slice (some ⟨gd, 0, none⟩) n n) ∧ w'.cell? ⟨gs, 0, none⟩ = some (.int .i64 x.f0) ∧ w'.cell? ⟨gs, 1, none⟩ = some (.bool x.f1) ∧ w'.cell? ⟨gd, t1, none⟩ = some (.int .i64 (rd d (t1 : Int))) ∧ w'.cell? ⟨gd, v, none⟩ = some (.int .i64 (rd d (v : Int)))) (first | go_keep | (refine (fun (h : _ ∧ _ ∧ _ ∧ _ ∧ _ ∧ _ ∧ _ ∧ _ ∧ _) => ⟨pw_cell_below hb (h.1), pw_cell_below hb (h.2.1), pw_cell_below hb (h.2.2.1), pw_cell_below hb (h.2.2.2.1), pw_cell_below hb (h.2.2.2.2.1), pw_cell_below hb (h.2.2.2.2.2.1), pw_cell_below hb (h.2.2.2.2.2.2.1), pw_cell_below hb (h.2.2.2.2.2.2.2.1), pw_cell_below hb (h.2.2.2.2.2.2.2.2)⟩) ?_; assumption)) ((go_at_call 66; refine (static_Flowing_Room.calls n b A c l Af cf f x.f0 x.f1 rm _ ?s1 HLC.out ?s2 HFC.out HRF.out).mono ?_; (case s1 => exact (HRO.out _ (HI9.out.kept.below zD)).1); (case s2 => exact (HRO.out _ (HI9.out.kept.below zD)).2.1); rintro e w19 ⟨rfl, hb⟩; have HI10 := zh (HI9.out.below (below_step zD hb)); have hS10 : Hid (w19.heap[gs]? = some (.cells #[.int .i64 x.f0, .bool x.f1] 105 (0, 0))) := zh (blk_below (by repeat (first | (with_reducible exact hS9.out) | refine blk_drew ?_)) hb)))
      clear x0 x1 x2 x3 x5 hdt hdv
      have hgo := down_go (d := d) HN.out HR.out HN3.out HIV.out (by rw [← HRW.out]; exact hil) (by rw [← HRW.out]; exact HX.out.symm) HT.out (by rw [← HRM.out]; exact hq2) (show rd d (t1 : Int) = rd d (v : Int) + 1 from by simpa using hq) (HDH.out t1 htn)
      have HGO := zh hgo
      have HLN : Hid ((W2.reverse.length + 1) * 16 ≤ 140737488355328) := zh (by
       have h1 := rpath_level HD0.out W2 v HN3.out.path
       have h2 := HDH.out v hvn
       rw [List.length_reverse]
       omega)
      have g0' : w19.cell? ⟨gs, 0, none⟩ = some (.int .i64 x.f0) := (blk_cell hS10.out 0).trans rfl
      have g1' : w19.cell? ⟨gs, 1, none⟩ = some (.bool x.f1) := (blk_cell hS10.out 1).trans rfl
      clear hgo g0 g1
      go_wp2_with ((with_reducible refine gate_dst (N := 90) rfl ?_); refine Kd.R_append kStep (w0 := w19) w.heap.size rfl (.tmp 87) (.tmp 89) 103 105 (.agg #[.int .i64 0, .bool false]) 16 rfl Try.underlying103 info105 rfl (by decide) (by decide) (.slice Aw W2.length cw) W2.reverse x [.int .i64 x.f0, .bool x.f1] (fun k => w.heap.size ≤ k) (fun _ => False) rfl rfl ?aP (fun _ hk => hk.elim) ?aF ?aO ?aB ?aS ?aL ?_; (case aP => exact k105_mkM _ _ _ x); (case aF => exact fun k hk => Nat.le_trans HI10.out.kept.1 hk); (case aO => first | exact HI10.out.row | exact Kd.R_below HI10.out.row zD); (case aB => repeat (first | (with_reducible exact Below.refl _ _) | apply below_drew)); (case aS => exact HI10.out.kept.1); (case aL => exact HLN.out); intro v1 w20 ho hb hg hat; have HI11 : Hid (DI w #[.int .i64 n, .bool b, .slice A l.length c, .slice Af f.length cf, .slice (some ⟨g, 0, none⟩) n n, .slice (some ⟨gd, 0, none⟩) n n, .slice (some ⟨gn, 0, none⟩) n n] gx gd gn d nx3 v1 (x :: W2).reverse w20) := zh ((HI10.out.below zD).pushed hg (by rw [List.reverse_cons]; exact ho)); clear ho hb hg hat)
      go_roundg (mu n rows (dOf d) (dOf nx3) v)
      case measure => exact Nat.lt_of_lt_of_le hk3 hkk
      case rel => exact ⟨t1, x :: W2, nx3, rfl, HI11, HL3, zh HGO.out.1, HD3, HGO.out.2⟩
    ·have hfull : ((rows.getD v []).length : Int) ≤ dOf nx3 v := by rw [HIV.out, ← HRW.out]; omega
     have HFU := zh hfull
     have c1 : ¬ ((i : Int) < (row.length : Int)) := by omega
     clear hfull
     by_cases hvs : v = s
     ·subst hvs
      have z3 : ((v : Int) == (v : Int)) = true := by simp
      go_wp2
      go_ret2
      exact ⟨nx3, HI.out.bn, HL3.out, HN3.out.nb, HI.out.kept, HI.out.stay, .inl ⟨rfl, fun hp => dead_done (HD3.out hp) hvn HFU.out HST.out⟩⟩
     ·have z3 : ((v : Int) == (s : Int)) = false := beq_eq_false_iff_ne.mpr (by omega)
      obtain ⟨m, hm⟩ : ∃ m, W2.length = m + 1 := by
       cases W2 with
       |nil => exact absurd (show v = s from HN3.out.path) hvs
       |cons x W3 => exact ⟨W3.length, rfl⟩
      have HIm : Hid (DI w #[.int .i64 n, .bool b, .slice A l.length c, .slice Af f.length cf, .slice (some ⟨g, 0, none⟩) n n, .slice (some ⟨gd, 0, none⟩) n n, .slice (some ⟨gn, 0, none⟩) n n] gx gd gn d nx3 (.slice Aw (m + 1) cw) W2.reverse wr) := zh (by rw [← hm]; exact HI.out)
      rw [hm]
      have hmn : m ≤ 10000 := by
       have h1 := rpath_level HD0.out W2 v HN3.out.path
       have h2 := HDH.out v hvn
       omega
      have hrd := Kd.R_reads' HIm.out.row
      have hcw : (m : Int) ≤ (cw : Int) := by have := hrd.2.1; omega
      have hm0 : (0 : Int) ≤ (m : Int) := by omega
      have hm1 : (m : Int) < (m : Int) + 1 := by omega
      obtain ⟨ga, ea, hga, y0, y1⟩ := step_cells (row := W2.reverse) (Kd.R_mono (by rw [List.length_reverse, hm]; exact HIm.out.row) (fun _ _ => trivial)) m (by rw [List.length_reverse]; omega)
      subst ea
      obtain ⟨x, W3, hW3⟩ : ∃ x W3, W2 = x :: W3 := by
       cases W2 with
       |nil => simp at hm
       |cons x W3 => exact ⟨x, W3, rfl⟩
      subst hW3
      have hm3 : W3.length = m := by simpa using hm
      have hgx : ((x :: W3).reverse.getD m ⟨0, false⟩ : Stp) = x := by
       rw [List.reverse_cons, List.getD_eq_getElem?_getD, List.getElem?_append_right (by rw [List.length_reverse]; omega), List.length_reverse, hm3]
       simp
      rw [hgx] at y0 y1
      obtain ⟨u, i2, hu, hsrc, hi2, hil2, hxm, hl4, hn4, hd4, hmu4⟩ := down_back HL3.out HN3.out HFU.out hvt HDH.out HD3.out
      obtain ⟨hx0, hx1, _⟩ := HR.out.row u hu x hxm
      have HFF := zh ((from_f n b l f x hx0 hx1).trans (by rw [hsrc]))
      have HIV2 := zh hi2
      have HL4 := zh hl4
      have HN4 := zh hn4
      have HD4 := zh hd4
      have HMU4 := zh hmu4
      have HM3 := zh hm3
      have HIB : Hid (i2 ≤ 4611686018427387904) := zh (by have := HR.out.short u; omega)
      have u0 : (0 : Int) ≤ (u : Int) := by omega
      have u1 : (u : Int) < (n : Int) := by omega
      have hw0 : wrap64 (m : Int) = (m : Int) := by unfold wrap64; omega
      clear hm hrd hm3 hgx hsrc hi2 hxm hl4 hn4 hd4 hmu4 hx0 hx1 x4 x5
      go_wp2
      clear nv nf x6
      go_region_held3 (fun w' => w'.cell? ⟨gx, 0, none⟩ = some (.int .i64 n) ∧ w'.cell? ⟨gx, 1, none⟩ = some (.bool b) ∧ w'.cell? ⟨gx, 2, none⟩ = some (.slice A l.length c) ∧ w'.cell? ⟨gx, 3, none⟩ = some (.slice Af f.length cf) ∧ w'.cell? ⟨ga, m * 2, none⟩ = some (.int .i64 x.f0) ∧ w'.cell? ⟨ga, m * 2 + 1, none⟩ = some (.bool x.f1)) (first | go_keep | (refine (fun (h : _ ∧ _ ∧ _ ∧ _ ∧ _ ∧ _) => ⟨pw_cell_below hb (h.1), pw_cell_below hb (h.2.1), pw_cell_below hb (h.2.2.1), pw_cell_below hb (h.2.2.2.1), pw_cell_below hb (h.2.2.2.2.1), pw_cell_below hb (h.2.2.2.2.2)⟩) ?_; assumption)) ((go_at_call 86; refine (static_Flowing_From.calls n b A c l Af cf f x.f0 x.f1 u _ ?s1 HLC.out ?s2 HFC.out HFF.out).mono ?_; (case s1 => exact (HRO.out _ (HIm.out.kept.below zD)).1); (case s2 => exact (HRO.out _ (HIm.out.kept.below zD)).2.1); rintro e w21 ⟨rfl, hb⟩; have HI21 := zh (HIm.out.below (below_step zD hb))))
      all_goals
       have HI22 : Hid (DI w #[.int .i64 n, .bool b, .slice A l.length c, .slice Af f.length cf, .slice (some ⟨g, 0, none⟩) n n, .slice (some ⟨gd, 0, none⟩) n n, .slice (some ⟨gn, 0, none⟩) n n] gx gd gn d nx3 (.slice (some ⟨ga, 0, none⟩) m cw) W3.reverse w21) := zh (by
        have h9 := HI21.out.cut rfl (m := m) (by rw [List.length_reverse, List.length_cons, HM3.out]; omega)
        have h8 : (x :: W3).reverse.take m = W3.reverse := by
         rw [List.reverse_cons, List.take_append_of_le_length (by rw [List.length_reverse, HM3.out]; exact Nat.le_refl _), List.take_of_length_le (by rw [List.length_reverse, HM3.out]; exact Nat.le_refl _)]
        rw [h8] at h9
        exact h9)
       clear x0 x1 x2 x3 y0 y1
       have x6 : w21.cell? ⟨gx, 6, none⟩ = some (.slice (some ⟨gn, 0, none⟩) n n) := (blk_cell HI22.out.bx 6).trans rfl
       have nv : w21.cell? ⟨gn, u, none⟩ = some (.int .i64 (i2 : Int)) := by
        have h9 := HI22.out.bn.cell u (by rw [HL3.out]; exact hu)
        rw [h9]
        have h8 : rd nx3 (u : Int) = (i2 : Int) := HIV2.out
        rw [h8]
       have nf : w21.frozen? ⟨gn, u, none⟩ = false := HI22.out.bn.free u
       have hb2 : -9223372036854775808 ≤ (i2 : Int) + 1 ∧ (i2 : Int) + 1 ≤ 9223372036854775807 := by (have := HIB.out; omega)
       have hi1 : wrap64 ((i2 : Int) + 1) = (i2 : Int) + 1 := (w1n i2 HIB.out).trans (Int.natCast_add i2 1)
       have hi2 : IntKind.i64.wrap ((i2 : Int) + 1) = (i2 : Int) + 1 := IntWalk.i64_in _ hb2
       clear hb2
       go_wp2
       go_roundg (mu n rows (dOf d) (dOf nx3) v)
       case measure => exact Nat.lt_of_lt_of_le hk3 hkk
       case rel => exact ⟨u, W3, nx3.set u ((i2 : Int) + 1), rfl, (by first | exact zh (HI22.out.setn u ((i2 : Int) + 1)) | exact zh ((HI22.out.setn u ((i2 : Int) + 1)).below (below_drew (Below.refl _ _)))), HL4, HN4, HD4, HMU4.out⟩
set_option linter.unusedVariables false
set_option linter.unusedSimpArgs false
theorem infoStep : (Try.prog.info? 105).map (fun i => (i.zero, i.size, i.bytes)) = some (some (.agg #[.int .i64 0, .bool false]), 2, 16) := by kernel_rfl
set_option maxHeartbeats 4000000 in
set_option maxRecDepth 100000 in
theorem seek_walk (n s : Nat) (b : Bool) (A : Option Addr) (c : Nat) (l : List Arc) (Af : Option Addr) (cf : Nat) (f : List Int) (g base : Nat) (rows : List (List Stp)) (w : World) (hn : NetOk n l) (hf : FlowOk l f) (hr : RowsOk n l rows) (hs : s < n)
  (hl : Kd.C k48 w A l.length l) (hlc : l.length ≤ c) (hF : Kd.C (Kd.int .i64) w Af f.length f) (hfc : f.length ≤ cf) (hS : Kd.S kSteps 103 w base (fun _ => True) (.slice (some ⟨g, 0, none⟩) n n) rows) :
  Calls Try.prog 50 #[.agg #[.int .i64 n, .bool b, .slice A l.length c, .slice Af f.length cf, .slice (some ⟨g, 0, none⟩) n n], .int .i64 s, .int .i64 (-1)] w fun e w' => ∃ (gd gb : Nat) (d : List Int), e = .returned (.tuple #[.slice (some ⟨gd, 0, none⟩) n n, .slice (some ⟨gb, 0, none⟩) n n]) ∧ w.heap.size ≤ gd ∧ IntBlk w' gd d ∧ d.length = n ∧ Bf n s (Lk l f rows) (dOf d) ∧ Below w.heap.size w w' := by
 have HN := zh hn
 have HF := zh hf
 have HR := zh hr
 have HL := zh hl
 have HLC := zh hlc
 have HFR := zh hF
 have HFC := zh hfc
 have HS := zh hS
 have n0 := hn.n0
 have n1 := hn.n1
 clear hn hf hr hl hlc hF hfc hS
 have hu := Try.underlying28
 have hu2 := Try.underlying87
 have hmk : ∀ W : World, (Instr.makeSlice 103 (.int .i64 (n : Int)) (.int .i64 (n : Int))).run Try.prog W = .ok (.slice (some ⟨W.heap.size, 0, none⟩) n n) (W.alloc (.cells (madeCells #[.int .i64 0, .bool false] (n * 2)) 105)) := fun W => by
  obtain ⟨i0, hi, hz0, hz1, hz2⟩ := info_parts infoStep
  have := run_make (P := Try.prog) W 103 105 i0 (.agg #[.int .i64 0, .bool false]) Try.underlying103 hi hz0 .i64 .i64 (n : Int) (n : Int) (by omega) (by omega) (by rw [hz2]; omega) (by omega)
  rw [hz1, Int.toNat_natCast] at this
  exact this
 go_enter Try.func50, Try.ntmps50
 go_wp2
 go_step3
 go_wp2
 rename_i K0 aK
 have z0 : (w.alloc (.cells #[.int .i64 n, .bool b, .slice A l.length c, .slice Af f.length cf, .slice (some ⟨g, 0, none⟩) n n] 87)).cell? ⟨w.heap.size, 0, none⟩ = some (.int .i64 n) := by
  exact (blk_cell (heap_alloc_new _ _) 0).trans rfl
 have fin : ∀ (gl gd gb : Nat) (W : World), Hid (SkP w #[.int .i64 n, .bool b, .slice A l.length c, .slice Af f.length cf, .slice (some ⟨g, 0, none⟩) n n] w.heap.size gd gb (List.replicate n (-1)) (n * 2) W) →
   K0 { tmps := #[.agg #[.int .i64 n, .bool b, .slice A l.length c, .slice Af f.length cf, .slice (some ⟨g, 0, none⟩) n n], .int .i64 s, .int .i64 (-1), .pointer (some ⟨w.heap.size, 0, none⟩), undef, undef, .slice (some ⟨gd, 0, none⟩) n n, .slice (some ⟨gb, 0, none⟩) n n, undef, undef, undef, undef, undef, undef, undef, .slice (some ⟨gl, 0, none⟩) 1 1, .pointer (some ⟨w.heap.size, 0, none⟩), .pointer (some ⟨w.heap.size, 0, none⟩), .pointer (some ⟨w.heap.size, 0, none⟩), .int .i64 n, .slice (some ⟨gd, 0, none⟩) n n, .pointer (some ⟨w.heap.size, 0, none⟩), .pointer (some ⟨w.heap.size, 0, none⟩), .pointer (some ⟨w.heap.size, 0, none⟩), .int .i64 n, .slice (some ⟨gb, 0, none⟩) n n, undef, undef, undef, undef, undef, undef, undef, undef, undef, undef, undef, undef, undef, undef, undef, undef, undef, undef, undef, undef, undef, undef, undef, undef, undef, undef, undef, undef, undef, undef, undef, undef, undef, undef, undef, undef, undef, undef, undef, undef, undef, undef, undef, undef, undef, undef, undef, undef, undef, undef, undef, undef, undef, undef, undef, undef, undef, undef, undef, undef, undef, undef, undef, undef, undef, undef, undef, undef, undef], defers := [] } W := by
  intro gl gd gb W HP
  clear hmk z0
  refine aK _ _ ?_
  clear aK K0
  have x0 : W.cell? ⟨w.heap.size, 0, none⟩ = some (.int .i64 n) := (blk_cell HP.out.bx 0).trans rfl
  have d0 : (W.cell? ⟨gd, s, none⟩) = some (.int .i64 (rd (List.replicate n (-1)) (s : Int))) := HP.out.bd.cell s (by rw [List.length_replicate]; exact hs)
  have d1 : W.frozen? ⟨gd, s, none⟩ = false := HP.out.bd.free s
  have xd : w.heap.size ≠ gd := HP.out.xd
  have i0 : (0 : Int) ≤ (s : Int) := by omega
  have i1 : (s : Int) < (n : Int) := by omega
  go_wp2_with (first
   |(go_at_call 61; refine (newqueue_walk n (by omega) _).mono ?_; rintro e w3 ⟨gq, rfl, hgl, _, hq, hb⟩; have HK := zh ((HP.out.setd s 0).queue hb hgl hq); clear hgl hq hb)
   |(go_at_call 62; refine (put_walk (okq w.heap.size w.heap.size gd gb) gq n s [] _ HK.out.qu ?s1 (by simp) (by omega)).mono ?_; (case s1 => exact fun k hk => ⟨by have := HK.out.low.size; omega, by have := blk_lt HK.out.bx; omega, by have := blk_lt HK.out.bd; omega, by have ⟨_, h, _⟩ := HK.out.bb; have := blk_lt h; omega⟩); rintro e w4 ⟨⟨c4, rfl⟩, hq, hk, hst⟩; have HK2 := zh (HK.out.call hk hst hq); clear hq hk hst))
  have hp0 : putF [] n (s : Int) = [(s : Int)] := by
   unfold putF
   rw [if_neg (by simp; omega)]
   rfl
  rw [hp0] at HK2
  have HN0 := hs
  clear x0 d0 d1 i0 i1 hp0 HK HP
  go_step3
  go_wp2
  go_loopg [] (2 * n + 2) (fun k wr => ∃ (d : List Int) (qn : List Nat) (top : Int), d.length = n ∧ Hid (SkI w #[.int .i64 n, .bool b, .slice A l.length c, .slice Af f.length cf, .slice (some ⟨g, 0, none⟩) n n] w.heap.size gd gb gq d (n * 2) (qn.map fun (u : Nat) => (u : Int)) n wr) ∧ Hid (BInv n s (Lk l f rows) None_ (dOf d) qn top) ∧ 2 * unv n (dOf d) + qn.length ≤ k)
  case atStart => exact ⟨(List.replicate n (-1)).set s 0, [s], 0, by simp, HK2, zh (seek_start _ hs), by have := unv_le n (dOf ((List.replicate n (-1)).set s 0)); simp; omega⟩
  case round =>
   obtain ⟨d, qn, top, hdl, HI, HB, hk⟩ := hrel
   clear HK2
   cases qn with
   |nil =>
    have z1 : ¬ ((0 : Int) < 0) := by decide
    go_wp2_with (go_at_call 63; refine (len_walk _ gq n [] _ HI.out.qu).mono ?_; rintro e w5 ⟨rfl, hb⟩; have HI5 := zh (HI.out.below hb); clear hb)
    rw [Exit.noGoto_ret]
    go_ret2
    exact ⟨gd, gb, d, rfl, HI5.out.dl, HI5.out.bd, hdl, HB.out.done, HI5.out.low⟩
   |cons a qt =>
    obtain ⟨hB1, ha0, han⟩ := HB.out.take
    have HB1 := zh hB1
    have hlen := HB.out.len
    rw [List.map_cons] at HI
    obtain ⟨Ar, cr, hat, hrow⟩ := steps_at HS.out a (by rw [HR.out.len]; exact han)
    obtain ⟨row, hrw⟩ : ∃ row, row = rows.getD a [] := ⟨_, rfl⟩
    rw [← hrw] at hat hrow
    have HRW := zh hrw
    have HRO := zh hrow
    have HAT := zh hat
    have z1 : (0 : Int) < ((qt.map fun (u : Nat) => (u : Int)).length + 1 : Nat) := by omega
    have a0 : (0 : Int) ≤ (a : Int) := by omega
    have a1 : (a : Int) < (n : Int) := by omega
    have HD := zh hdl
    have HA0 := zh ha0
    clear HB hB1 hrw hrow hat hdl ha0
    go_wp2_with (first
     |(go_at_call 63; refine (len_walk _ gq n _ _ HI.out.qu).mono ?_; rintro e w5 ⟨rfl, hb⟩; have HI5 := zh (HI.out.below hb); clear hb)
     |(go_at_call 64; refine (take_walk _ gq (a : Int) _ n _ HI5.out.qu).mono ?_; rintro e w6 ⟨rfl, hq, hk2, hst⟩; have HI6 := zh (HI5.out.call hk2 hst hq); have x4 : w6.cell? ⟨w.heap.size, 4, none⟩ = some (.slice (some ⟨g, 0, none⟩) n n) := (blk_cell HI6.out.bx 4).trans rfl; have x5 : w6.cell? ⟨g, a, none⟩ = some (.slice Ar row.length cr) := pw_cell_below HI6.out.low HAT.out; clear hq hk2 hst))
    go_loopg [54] (row.length + 1) (fun k jv wr => ∃ (j : Nat) (d2 : List Int) (qn : List Nat), jv = .int .i64 j ∧ j ≤ row.length ∧ k = row.length + 1 - j ∧ d2.length = n ∧ Hid (SkI w #[.int .i64 n, .bool b, .slice A l.length c, .slice Af f.length cf, .slice (some ⟨g, 0, none⟩) n n] w.heap.size gd gb gq d2 (n * 2) (qn.map fun (u : Nat) => (u : Int)) n wr) ∧ Hid (BInv n s (Lk l f rows) (fun u => u = a) (dOf d2) qn (dOf d2 a)) ∧ Hid (0 ≤ dOf d2 a ∧ ∀ i, i < j → rmv l f (row.getD i ⟨0, false⟩) ≠ 0 → 0 ≤ dOf d2 (tgt l (row.getD i ⟨0, false⟩)).toNat) ∧ 2 * unv n (dOf d2) + qn.length < gk)
    case atStart => exact ⟨0, d, qt, rfl, Nat.zero_le _, rfl, HD.out, HI6, HB1, zh ⟨HA0.out, fun i hi => absurd hi (Nat.not_lt_zero _)⟩, by rw [List.length_cons] at hk; omega⟩
    case round =>
     obtain ⟨j, d2, qn, rfl, hj, rfl, hdl, HI, HB, HC, hm⟩ := hrel
     clear HI6 HB1 x4 x5 HI5
     by_cases hjl : j < row.length
     ·obtain ⟨x, hx⟩ : ∃ x, x = row.getD j ⟨0, false⟩ := ⟨_, rfl⟩
      have hxm : x ∈ row := by
       rw [hx, List.getD_eq_getElem?_getD, List.getElem?_eq_getElem hjl]
       exact List.getElem_mem hjl
      obtain ⟨hx0, hx1, hxs⟩ := HR.out.row a han x (by rw [← HRW.out]; exact hxm)
      obtain ⟨ga, ea, hga, hc0, hc1⟩ := step_cells HRO.out j hjl
      subst ea
      rw [← hx] at hc0 hc1
      have y0 : wr.cell? ⟨ga, j * 2, none⟩ = some (.int .i64 x.f0) := pw_cell_below HI.out.low hc0
      have y1 : wr.cell? ⟨ga, j * 2 + 1, none⟩ = some (.bool x.f1) := pw_cell_below HI.out.low hc1
      obtain ⟨t, ht⟩ : ∃ t : Nat, tgt l x = (t : Int) := Int.eq_ofNat_of_zero_le (tgt_ok HN.out hx0 hx1).1
      have htn : t < n := by have := (tgt_ok HN.out hx0 hx1).2; omega
      have htf := (to_f n b l f x hx0 hx1).trans (by rw [ht])
      have hrf := room_f b HN.out HF.out x hx0 hx1
      obtain ⟨rm, hrm⟩ : ∃ rm, rm = rmv l f x := ⟨_, rfl⟩
      rw [← hrm] at hrf
      have HX := zh hx
      have HXM := zh hxm
      have HT := zh ht
      have HTF := zh htf
      have HRF := zh hrf
      have HRM := zh hrm
      have HDL := zh hdl
      have HJ : Hid (j ≤ 4611686018427387904) := zh (by have := HR.out.short a; rw [← HRW.out] at this; omega)
      have j0 : (0 : Int) ≤ (j : Int) := by omega
      have j1 : (j : Int) < (row.length : Int) := by omega
      clear hx hxm hx0 hx1 hxs hc0 hc1 ht htf hrf hrm hdl
      have hcase : (0 ≤ rd d2 (t : Int)) ∨ ((¬ (0 ≤ rd d2 (t : Int)) ∧ (rm == 0) = true ∧ (rm != 0) = false) ∨ (¬ (0 ≤ rd d2 (t : Int)) ∧ (rm == 0) = false ∧ (rm != 0) = true)) := by
       by_cases h1 : 0 ≤ rd d2 (t : Int)
       ·exact .inl h1
       ·by_cases h2 : rm = 0
        ·exact .inr (.inl ⟨h1, by simp [h2], by simp [h2]⟩)
        ·exact .inr (.inr ⟨h1, by simp [h2], by simp [h2]⟩)
      have dt0 : (0 : Int) ≤ (t : Int) := by omega
      have dt1 : (t : Int) < (n : Int) := by omega
      rcases hcase with hge | ⟨hge, hz, hz2⟩ | ⟨hge, hz, hz2⟩
      all_goals
       go_wp2_with (first
        |((with_reducible refine gate_dst (N := 13) rfl ?_); (refine box_event ?hg (N := 13) ?hd (cs := #[.int .i64 0, .bool false]) (t := 105) ?hr ?_; (case hd => rfl); (case hg => rfl); (case hr => first | (go_simp; done) | (go_simp; rfl)); intro gs hg w17 hbox hb; have hgs : wr.heap.size ≤ gs := Nat.le_of_eq hg.symm; have hgx : w.heap.size ≠ gs := (by have := blk_lt HI.out.bx; omega); have hgd : gd ≠ gs := (by have := blk_lt HI.out.bd; omega); have hgb : gb ≠ gs := (by obtain ⟨_, h9, _⟩ := HI.out.bb; have := blk_lt h9; omega); have HW17 := zh (HI.out.below hb); have HBX := zh hbox; have HB17 := zh hb; have HGS := zh hgs; have s0 : w17.cell? ⟨gs, 0, none⟩ = some (.int .i64 0) := (blk_cell hbox 0).trans rfl; have s1 : w17.cell? ⟨gs, 1, none⟩ = some (.bool false) := (blk_cell hbox 1).trans rfl; have f0 := blk_frozen hbox 0; have f1 := blk_frozen hbox 1; have x0 : w17.cell? ⟨w.heap.size, 0, none⟩ = some (.int .i64 n) := (blk_cell HW17.out.bx 0).trans rfl; have x1 : w17.cell? ⟨w.heap.size, 1, none⟩ = some (.bool b) := (blk_cell HW17.out.bx 1).trans rfl; have x2 : w17.cell? ⟨w.heap.size, 2, none⟩ = some (.slice A l.length c) := (blk_cell HW17.out.bx 2).trans rfl; have x3 : w17.cell? ⟨w.heap.size, 3, none⟩ = some (.slice Af f.length cf) := (blk_cell HW17.out.bx 3).trans rfl; clear hbox hb hg hgs))
        |(go_at_call 65; refine (static_Flowing_To.calls n b A c l Af cf f x.f0 x.f1 t _ ?s1 HLC.out ?s2 HFC.out HTF.out).mono ?_; (case s1 => exact Kd.C_below HL.out (below_step HI.out.low (by repeat (first | (with_reducible exact HB17.out) | apply below_drew | refine below_set ?_ HGS.out)))); (case s2 => exact Kd.C_below HFR.out (below_step HI.out.low (by repeat (first | (with_reducible exact HB17.out) | apply below_drew | refine below_set ?_ HGS.out)))); rintro e w18 ⟨rfl, hb⟩; have HB18 := zh (below_step (by repeat (first | (with_reducible exact HB17.out) | apply below_drew | refine below_set ?_ HGS.out)) hb); have HI9 := zh (HI.out.below HB18.out); have hs18 : w18.heap[gs]? = some (.cells #[.int .i64 x.f0, .bool x.f1] 105 (0, 0)) := blk_below (by (repeat (first | (with_reducible exact blk_put (cs := #[.int .i64 x.f0, .bool false]) (blk_put (cs := #[.int .i64 0, .bool false]) HBX.out 0 (.int .i64 x.f0) rfl) 1 (.bool x.f1) rfl) | refine blk_drew ?_))) hb; have dt : w18.cell? ⟨gd, t, none⟩ = some (.int .i64 (rd d2 (t : Int))) := HI9.out.bd.cell t (by rw [HDL.out]; exact htn); clear x0 x1 x2 x3 s0 s1 f0 f1; have x0 : w18.cell? ⟨w.heap.size, 0, none⟩ = some (.int .i64 n) := (blk_cell HI9.out.bx 0).trans rfl; have x1 : w18.cell? ⟨w.heap.size, 1, none⟩ = some (.bool b) := (blk_cell HI9.out.bx 1).trans rfl; have x2 : w18.cell? ⟨w.heap.size, 2, none⟩ = some (.slice A l.length c) := (blk_cell HI9.out.bx 2).trans rfl; have x3 : w18.cell? ⟨w.heap.size, 3, none⟩ = some (.slice Af f.length cf) := (blk_cell HI9.out.bx 3).trans rfl; have s0 : w18.cell? ⟨gs, 0, none⟩ = some (.int .i64 x.f0) := (blk_cell hs18 0).trans rfl; have s1 : w18.cell? ⟨gs, 1, none⟩ = some (.bool x.f1) := (blk_cell hs18 1).trans rfl; have HS18 := zh hs18; clear hs18 hb)
        |(go_at_call 66; refine (static_Flowing_Room.calls n b A c l Af cf f x.f0 x.f1 rm _ ?s1 HLC.out ?s2 HFC.out HRF.out).mono ?_; (case s1 => exact Kd.C_below HL.out (below_step HI.out.low (by repeat (first | (with_reducible exact HB18.out) | apply below_drew)))); (case s2 => exact Kd.C_below HFR.out (below_step HI.out.low (by repeat (first | (with_reducible exact HB18.out) | apply below_drew)))); rintro e w19 ⟨rfl, hb⟩; have HB19 := zh (below_step (by repeat (first | (with_reducible exact HB18.out) | apply below_drew)) hb); have HI10 := zh (HI.out.below HB19.out); have hs19 : w19.heap[gs]? = some (.cells #[.int .i64 x.f0, .bool x.f1] 105 (0, 0)) := blk_below (by repeat (first | (with_reducible exact HS18.out) | refine blk_drew ?_)) hb; have HS19 := zh hs19; clear hs19 hb))
      ·go_roundg (row.length - j)
       case measure => omega
       case rel => exact ⟨j + 1, d2, qn, by rw [w1n j HJ.out], by omega, by omega, HDL.out, HI9, HB, zh ⟨HC.out.1, fun i hi hr9 => by
        rcases Nat.lt_succ_iff_lt_or_eq.1 hi with h9 | h9
        ·exact HC.out.2 i h9 hr9
        ·subst h9
         rw [← HX.out, HT.out]
         exact hge⟩, hm⟩
      ·go_roundg (row.length - j)
       case measure => omega
       case rel => exact ⟨j + 1, d2, qn, by rw [w1n j HJ.out], by omega, by omega, HDL.out, HI10, HB, zh ⟨HC.out.1, fun i hi hr9 => by
        rcases Nat.lt_succ_iff_lt_or_eq.1 hi with h9 | h9
        ·exact HC.out.2 i h9 hr9
        ·subst h9
         rw [← HX.out, ← HRM.out] at hr9
         exact absurd (by simpa using hz) hr9⟩, hm⟩
      ·have hat : a ≠ t := fun e => by subst e; have h9 := HC.out.1; unfold dOf at h9; omega
       have hta : t ≠ a := fun e => hat e.symm
       have hda := level_le HB.out.par HB.out.hs han
       have ha0 := HC.out.1
       have hw1 : wrap64 (rd d2 (a : Int) + 1) = rd d2 (a : Int) + 1 := by
        unfold dOf at hda ha0
        unfold wrap64
        omega
       have hw2 : IntKind.i64.wrap (rd d2 (a : Int) + 1) = rd d2 (a : Int) + 1 := IntWalk.i64_in _ (by unfold dOf at hda ha0; omega)
       have da : w19.cell? ⟨gd, a, none⟩ = some (.int .i64 (rd d2 (a : Int))) := HI10.out.bd.cell a (by rw [HDL.out]; exact han)
       have dt' : w19.cell? ⟨gd, t, none⟩ = some (.int .i64 (rd d2 (t : Int))) := HI10.out.bd.cell t (by rw [HDL.out]; exact htn)
       have df : w19.frozen? ⟨gd, t, none⟩ = false := HI10.out.bd.free t
       obtain ⟨⟨vb0, hb0⟩, hf0⟩ := HI10.out.spotb (i := t * 2) (by omega)
       obtain ⟨⟨vb1, hb1⟩, hf1⟩ := HI10.out.spotb (i := t * 2 + 1) (by omega)
       have g0 : w19.cell? ⟨gs, 0, none⟩ = some (.int .i64 x.f0) := (blk_cell HS19.out 0).trans rfl
       have g1 : w19.cell? ⟨gs, 1, none⟩ = some (.bool x.f1) := (blk_cell HS19.out 1).trans rfl
       have hdb := HI10.out.db
       have hdb' : gb ≠ gd := fun e => hdb e.symm
       have hgd' : gs ≠ gd := fun e => hgd e.symm
       have hgb' : gs ≠ gb := fun e => hgb e.symm
       have hcs : ∀ (W : World) (v : Value), (W.setCell ⟨gd, t, none⟩ v).cell? ⟨gd, a, none⟩ = W.cell? ⟨gd, a, none⟩ := fun W v => World.cell?_setCell_other _ _ _ _ (by intro e; injection e with _ e _; exact hta e)
       have z3 : ((t : Int) == -1) = false := beq_eq_false_iff_ne.mpr (by omega)
       have HGE := zh hge
       clear dt s0 s1 x0 x1 x2 x3 hda ha0 hge
       go_region_held3 (fun w' => w'.cell? ⟨gd, a, none⟩ = some (.int .i64 (rd d2 (a : Int))) ∧ w'.cell? ⟨gs, 0, none⟩ = some (.int .i64 x.f0) ∧ w'.cell? ⟨gs, 1, none⟩ = some (.bool x.f1)) (go_keep) (fail)
       all_goals
        have HI11 := zh (((HI10.out.setd t (rd d2 (a : Int) + 1)).setb (t * 2) (.int .i64 x.f0)).setb (t * 2 + 1) (.bool x.f1))
        have hroom := HB.out.room htn (by unfold dOf; omega)
        go_wp2_with (go_at_call 62; refine (put_walk (okq w.heap.size w.heap.size gd gb) gq n t _ _ HI11.out.qu.drew ?s1 ?s2 (by omega)).mono ?_; (case s1 => exact fun k hk => ⟨Nat.le_trans HI11.out.low.size hk, by have := blk_lt HI11.out.bx; exact fun e => by subst e; exact Nat.lt_irrefl _ (Nat.lt_of_lt_of_le this hk), by have := blk_lt HI11.out.bd; exact fun e => by subst e; exact Nat.lt_irrefl _ (Nat.lt_of_lt_of_le this hk), by have ⟨_, h, _⟩ := HI11.out.bb; have := blk_lt h; exact fun e => by subst e; exact Nat.lt_irrefl _ (Nat.lt_of_lt_of_le this hk)⟩); (case s2 => rw [List.length_map]; omega); rintro e w20 ⟨⟨c20, rfl⟩, hq, hk, hst⟩; have HI12 := zh (HI11.out.call (W1 := w20) hk hst hq); clear hq hk hst)
        go_roundg (row.length - j)
        case measure => omega
        case rel =>
         have hlk : Lk l f rows a t := ⟨x, by rw [← HRW.out]; exact HXM.out, HT.out, by rw [← HRM.out]; intro e; rw [e] at hz; exact absurd hz (by decide)⟩
         have hneg : dOf d2 t < 0 := by unfold dOf; omega
         have hput := HB.out.put han HC.out.1 htn hneg hlk
         have hset : dOf (d2.set t (rd d2 (a : Int) + 1)) = upd (dOf d2) t (dOf d2 a + 1) := dOf_set (by rw [HDL.out]; exact htn) _
         have hunv := unv_upd (d := dOf d2) (x := dOf d2 a + 1) htn (by have := HC.out.1; omega) hneg
         have hq : putF (qn.map fun (u : Nat) => (u : Int)) n (t : Int) = (qn ++ [t]).map fun (u : Nat) => (u : Int) := by
          unfold putF
          rw [if_neg (by rw [List.length_map]; omega), List.map_append]
          rfl
         rw [hq] at HI12
         refine ⟨j + 1, d2.set t (rd d2 (a : Int) + 1), qn ++ [t], by rw [w1n j HJ.out], by omega, by omega, by rw [List.length_set]; exact HDL.out, HI12, zh (by rw [hset]; exact hput), zh ⟨?_, fun i hi hr9 => ?_⟩, ?_⟩
         ·rw [hset, upd_ne hat]
          exact HC.out.1
         ·rw [hset]
          rcases Nat.lt_succ_iff_lt_or_eq.1 hi with h9 | h9
          ·have h8 := HC.out.2 i h9 hr9
           have h7 := HC.out.1
           unfold upd
           split
           ·omega
           ·exact h8
          ·subst h9
           rw [← HX.out, HT.out]
           have h7 := HC.out.1
           show 0 ≤ upd (dOf d2) t (dOf d2 a + 1) ((t : Int)).toNat
           rw [Int.toNat_natCast, upd_same]
           omega
         ·rw [hset, List.length_append]
          simp only [List.length_singleton]
          omega
     ·have e : j = row.length := by omega
      subst e
      clear hjl
      have hcl : ∀ w9, Lk l f rows a w9 → 0 ≤ dOf d2 w9 := by
       rintro w9 ⟨x, hx, ht, hr9⟩
       rw [← HRW.out] at hx
       obtain ⟨i, hi, rfl⟩ := List.getElem_of_mem hx
       have h9 := HC.out.2 i hi
       rw [List.getD_eq_getElem?_getD, List.getElem?_eq_getElem hi] at h9
       have h8 := h9 hr9
       rw [show ((some row[i]).getD (⟨0, false⟩ : Stp)) = row[i] from rfl, ht] at h8
       simpa using h8
      have hcn : ∀ w9, Lk l f rows a w9 → w9 < n := by
       rintro w9 ⟨x, hx, ht, hr9⟩
       obtain ⟨h7, h8, _⟩ := HR.out.row a han x hx
       have := (tgt_ok HN.out h7 h8).2
       omega
      have HBC := zh (HB.out.close hcn hcl)
      clear hcl hcn
      go_wp2
      go_roundg (2 * unv n (dOf d2) + qn.length)
      case measure => exact hm
      case rel => exact ⟨d2, qn, _, hdl, HI, HBC, Nat.le_refl _⟩
 go_region_held3 (fun w' => w'.cell? ⟨w.heap.size, 0, none⟩ = some (.int .i64 n)) (first | go_keep | exact pw_cell_below hb (by assumption)) ((go_at_call 60; refine (repeat_walk n (by omega) (by omega) _ _ ?s1).mono ?_; (case s1 => exact (blk_cell (blk_drew (o := .cells #[.int .i64 (-1)] 3 (0, 0)) (by first | exact alloc_at (by simp only [heap_of_drew, alloc_size]) | (refine blk_alloc ?_ _; exact alloc_at (by simp only [heap_of_drew, alloc_size])))) 0).trans rfl); rintro e w1 ⟨rfl, hI, hb⟩))
 all_goals
  simp only [heap_of_drew, alloc_size] at hI
  have hlt := blk_lt hI
  show K0 _ _
  refine fin _ _ _ _ (zh ⟨?_, ?_, ⟨madeCells #[.int .i64 0, .bool false] (n * 2), ?_, size_madeCells _ _⟩, ?_, ?_, ?_, ?_, ?_, ?_, ?_⟩)
  ·repeat (first | exact alloc_at (by simp only [heap_of_drew, alloc_size]) | refine blk_below ?_ hb | refine blk_alloc ?_ _ | refine blk_drew ?_)
  ·first | exact hI | exact blk_alloc hI _
  ·repeat (first | exact alloc_at (by simp only [heap_of_drew, alloc_size]) | refine blk_below ?_ hb | refine blk_alloc ?_ _ | refine blk_drew ?_)
  ·repeat (first | exact Below.refl _ _ | apply below_drew | apply below_alloc | refine below_step ?_ hb)
  all_goals omega
set_option maxHeartbeats 1000000 in
set_option maxRecDepth 100000 in
theorem far_walk (n s : Nat) (b : Bool) (A : Option Addr) (c : Nat) (l : List Arc) (Af : Option Addr) (cf : Nat) (f : List Int) (g base : Nat) (rows : List (List Stp)) (w : World) (hn : NetOk n l) (hf : FlowOk l f) (hr : RowsOk n l rows) (hs : s < n)
  (hl : Kd.C k48 w A l.length l) (hlc : l.length ≤ c) (hF : Kd.C (Kd.int .i64) w Af f.length f) (hfc : f.length ≤ cf) (hS : Kd.S kSteps 103 w base (fun _ => True) (.slice (some ⟨g, 0, none⟩) n n) rows) :
  Calls Try.prog 34 #[.agg #[.int .i64 n, .bool b, .slice A l.length c, .slice Af f.length cf, .slice (some ⟨g, 0, none⟩) n n], .int .i64 s] w fun e w' => ∃ (gd : Nat) (d : List Int), e = .returned (.slice (some ⟨gd, 0, none⟩) n n) ∧ w.heap.size ≤ gd ∧ IntBlk w' gd d ∧ d.length = n ∧ Bf n s (Lk l f rows) (dOf d) ∧ Below w.heap.size w w' := by
 have HN := zh hn
 have HF := zh hf
 have HR := zh hr
 have HL := zh hl
 have HLC := zh hlc
 have HFR := zh hF
 have HFC := zh hfc
 have HS := zh hS
 have HSN := zh hs
 clear hn hf hr hl hlc hF hfc hS hs
 have hu2 := Try.underlying87
 go_enter Try.func34, Try.ntmps34
 go_wp2_with (go_at_call 50; refine (seek_walk n s b A c l Af cf f g base rows _ HN.out HF.out HR.out HSN.out ?s1 HLC.out ?s2 HFC.out ?s3).mono ?_; (case s1 => exact Kd.C_below HL.out (by repeat (first | (with_reducible exact Below.refl _ _) | apply below_drew | apply below_alloc))); (case s2 => exact Kd.C_below HFR.out (by repeat (first | (with_reducible exact Below.refl _ _) | apply below_drew | apply below_alloc))); (case s3 => exact Kd.S_below HS.out (by repeat (first | (with_reducible exact Below.refl _ _) | apply below_drew | apply below_alloc))); rintro e w1 ⟨gd, gb, d, rfl, h1, h2, h3, h4, h5⟩; have H1 := zh (show w.heap.size ≤ gd from Nat.le_trans (by simp) h1); have H2 := zh h2; have H3 := zh h3; have H4 := zh h4; have H5 : Hid (Below w.heap.size w w1) := zh (below_step (by repeat (first | (with_reducible exact Below.refl _ _) | apply below_drew | apply below_alloc)) h5); clear h1 h2 h3 h4 h5)
 go_ret
 exact ⟨gd, d, rfl, H1.out, H2.out, H3.out, H4.out, H5.out⟩
set_option linter.unusedVariables false
set_option linter.unusedSimpArgs false
def three (gx gn bf : Nat) (k : Nat) : Prop := k = gx ∨ k = gn ∨ k = bf
def ReadOk3 (w : World) (gx gn bf : Nat) (A : Option Addr) (l : List Arc) (g n : Nat) (rows : List (List Stp)) : Prop :=
 ∀ W, Kept w W (three gx gn bf) → Kd.C k48 W A l.length l ∧ ∃ base, Kd.S kSteps 103 W base (fun _ => True) (.slice (some ⟨g, 0, none⟩) n n) rows
def fillCells (n : Nat) (b : Bool) (A : Option Addr) (ll c bf lf g : Nat) (vd : Value) (gn : Nat) : Array Value :=
 #[.int .i64 n, .bool b, .slice A ll c, .slice (some ⟨bf, 0, none⟩) lf lf, .slice (some ⟨g, 0, none⟩) n n, vd, .slice (some ⟨gn, 0, none⟩) n n]
structure PhI (w0 : World) (xs : Array Value) (gx gn bf : Nat) (nx f : List Int) (W : World) : Prop where
 bx : W.heap[gx]? = some (.cells xs 117 (0, 0))
 bn : IntBlk W gn nx
 bb : IntBlk W bf f
 kept : Kept w0 W (three gx gn bf)
 stay : Stay w0 W
 xl : gx < w0.heap.size
 nl : gn < w0.heap.size
 bl : bf < w0.heap.size
 xn : gx ≠ gn
 xb : gx ≠ bf
 nb : gn ≠ bf
section
variable {w0 : World} {xs : Array Value} {gx gn bf : Nat} {nx f : List Int} {W W1 : World}
theorem PhI.below (h : PhI w0 xs gx gn bf nx f W) (hb : Below W.heap.size W W1) : PhI w0 xs gx gn bf nx f W1 :=
 ⟨blk_below h.bx hb, blk_below h.bn hb, blk_below h.bb hb, h.kept.below hb, h.stay.then_ (Stay.of_below hb), h.xl, h.nl, h.bl, h.xn, h.xb, h.nb⟩
theorem PhI.setx (h : PhI w0 xs gx gn bf nx f W) (i : Nat) (v : Value) : PhI w0 (xs.setIfInBounds i v) gx gn bf nx f (W.setCell ⟨gx, i, none⟩ v) := by
 have hk : Kept W (W.setCell ⟨gx, i, none⟩ v) (fun k => k = gx) := Kept.setCell (S := fun k => k = gx) (p := ⟨gx, i, none⟩) (Kept.refl W _) (Or.inl rfl) _
 exact ⟨blk_set h.bx i v, h.bn.kept hk (fun e => h.xn e.symm), h.bb.kept hk (fun e => h.xb e.symm), h.kept.then_ hk (fun k e => .inl (.inl e)), h.stay.then_ ⟨rfl, rfl, rfl⟩, h.xl, h.nl, h.bl, h.xn, h.xb, h.nb⟩
theorem PhI.down (h : PhI w0 xs gx gn bf nx f W) {nx2 : List Int} (hk : Kept W W1 (fun k => k = gn)) (hs : Stay W W1) (hn : IntBlk W1 gn nx2) : PhI w0 xs gx gn bf nx2 f W1 :=
 ⟨blk_kept h.bx hk h.xn, hn, h.bb.kept hk (fun e => h.nb e.symm), h.kept.then_ hk (fun k e => .inl (.inr (.inl e))), h.stay.then_ hs, h.xl, h.nl, h.bl, h.xn, h.xb, h.nb⟩
theorem PhI.push (h : PhI w0 xs gx gn bf nx f W) {f2 : List Int} (hk : Kept W W1 (fun k => k = bf)) (hs : Stay W W1) (hn : IntBlk W1 bf f2) : PhI w0 xs gx gn bf nx f2 W1 :=
 ⟨blk_kept h.bx hk h.xb, h.bn.kept hk h.nb, hn, h.kept.then_ hk (fun k e => .inl (.inr (.inr e))), h.stay.then_ hs, h.xl, h.nl, h.bl, h.xn, h.xb, h.nb⟩
end
theorem read_down {w W : World} {gx gn bf : Nat} {A : Option Addr} {l : List Arc} {g n : Nat} {rows : List (List Stp)} {f : List Int} (h : ReadOk3 w gx gn bf A l g n rows) (hk : Kept w W (three gx gn bf)) (hb : IntBlk W bf f) (hne : gn ≠ bf) (hf : f.length ≤ 9223372036854775807) : ReadOk W gn A l (some ⟨bf, 0, none⟩) f g n rows := by
 intro W2 hk2
 obtain ⟨h1, h2⟩ := h W2 (hk.then_ hk2 (fun k e => .inl (.inr (.inl e))))
 exact ⟨h1, (hb.kept hk2 (fun e => hne e.symm)).reads hf, h2⟩
def zeroed : List Int → Nat → Nat → List Int
 |l, _, 0 => l
 |l, o, m + 1 => zeroed (l.set o 0) (o + 1) m
theorem zeroed_get : ∀ (m : Nat) (l : List Int) (o i : Nat), o + m ≤ l.length → (zeroed l o m)[i]? = if o ≤ i ∧ i < o + m then some 0 else l[i]?
 |0, l, o, i, _ => by rw [zeroed, if_neg (by omega)]
 |m + 1, l, o, i, h => by
  rw [zeroed, zeroed_get m (l.set o 0) (o + 1) i (by rw [List.length_set]; omega)]
  by_cases e : i = o
  ·subst e
   rw [if_neg (by omega), if_pos (by omega), List.getElem?_set_self (by omega)]
  ·rw [List.getElem?_set_ne (Ne.symm e)]
   by_cases h2 : o + 1 ≤ i ∧ i < o + 1 + m
   ·rw [if_pos h2, if_pos (by omega)]
   ·rw [if_neg h2, if_neg (by omega)]
theorem zeroed_all (l : List Int) : zeroed l 0 l.length = List.replicate l.length 0 := by
 apply List.ext_getElem?
 intro i
 rw [zeroed_get l.length l 0 i (by omega), List.getElem?_replicate]
 by_cases h : i < l.length
 ·rw [if_pos (by omega), if_pos h]
 ·rw [if_neg (by omega), if_neg h, List.getElem?_eq_none (by omega)]
theorem cleared {b : Nat} : ∀ (m : Nat) (W : World) (l : List Int) (o : Nat), IntBlk W b l → IntBlk (W.setCells b o (List.replicate m (.int .i64 0))) b (zeroed l o m) ∧ Kept W (W.setCells b o (List.replicate m (.int .i64 0))) (fun k => k = b) ∧ Stay W (W.setCells b o (List.replicate m (.int .i64 0)))
 |0, W, l, o, h => ⟨h, Kept.refl _ _, rfl, rfl, rfl⟩
 |m + 1, W, l, o, h => by
  have hk : Kept W (W.setCell ⟨b, o, none⟩ (.int .i64 0)) (fun k => k = b) := Kept.setCell (S := fun k => k = b) (p := ⟨b, o, none⟩) (Kept.refl W _) (Or.inl rfl) _
  obtain ⟨h1, h2, h3⟩ := cleared m (W.setCell ⟨b, o, none⟩ (.int .i64 0)) (l.set o 0) (o + 1) (h.set o 0)
  exact ⟨h1, hk.then_ h2 (fun _ e => .inl e), (show Stay W (W.setCell ⟨b, o, none⟩ (.int .i64 0)) from ⟨rfl, rfl, rfl⟩).then_ h3⟩
theorem blk_of_R {W : World} {base b : Nat} {ok : Nat → Prop} {l : List Int} (h : Kd.R (Kd.int .i64) 3 W base ok (.slice (some ⟨b, 0, none⟩) l.length l.length) l) : IntBlk W b l := by
 obtain ⟨_, h2⟩ := Kd.own_of_R (enc := Value.int .i64) (h1 := fun _ => rfl) h
 rcases h2 with ⟨e, _⟩ | ⟨g, cap, cur, e, _, hb, _, _, hs, ht⟩
 ·injection e with e1
  exact absurd e1 (by simp)
 ·injection e with e1 _ e3
  injection e1 with e1
  injection e1 with e1
  subst e1
  subst e3
  rw [Nat.mul_one] at hs ht
  rw [List.take_of_length_le (by rw [Array.length_toList, hs]; exact Nat.le_refl _)] at ht
  unfold IntBlk ints
  rw [hb]
  have : cur = (l.map (Value.int .i64)).toArray := by
   apply Array.ext'
   rw [ht]
   rfl
  rw [this]
theorem r_of_blk {W : World} {b : Nat} {l : List Int} (h : IntBlk W b l) (hm : l.length ≤ 100000) : Kd.R (Kd.int .i64) 3 W 0 (fun k => k = b) (.slice (some ⟨b, 0, none⟩) l.length l.length) l :=
 Kd.R_of_own (h1 := fun _ => rfl) (h.own (Nat.zero_le _) (by simp only [maxLen]; omega)) (fun k hk => by simpa [Value.ownBlock, eq_comm] using hk)
def bare (w : World) : World := { w with heap := #[] }
theorem below_bare (w W : World) (hs : Stay w W) : Below (bare w).heap.size (bare w) W := ⟨hs.1, hs.2.1, hs.2.2, Nat.zero_le _, fun k hk => absurd hk (Nat.not_lt_zero _)⟩
theorem stay_bare {w W W2 : World} (hs : Stay w W) (h : Below (bare w).heap.size (bare w) W2) : Stay W W2 := ⟨h.os.trans hs.1.symm, h.tape.trans hs.2.1.symm, h.output.trans hs.2.2.symm⟩
theorem int_zero : ∀ w : World, (zeroValue 3).run Try.prog w = .ok (.int .i64 0) w := by
 obtain ⟨i0, hi, hz0, -, -⟩ := info_parts infoInt
 intro w
 simp [zeroValue, typeInfo, hi, hz0]
theorem zero_at {n : Nat} : ∀ u, u < n → dOf (List.replicate n 0) u = 0 := fun u hu => by
 unfold dOf rd
 simp [hu]
theorem clear_next {w0 W : World} {xs : Array Value} {gx gn bf n : Nat} {nx f : List Int} {vd : Value} (h : PhI w0 xs gx gn bf nx f W) (hn : nx.length = n) (h0 : 0 < n) : ∀ ty, (Builtin.clear_ #[51] ty #[.slice (some ⟨gn, 0, none⟩) n n]).run Try.prog (W.setCell ⟨gx, 5, none⟩ vd) = .ok (.tuple #[]) ((W.setCell ⟨gx, 5, none⟩ vd).setCells gn 0 (List.replicate n (.int .i64 0))) := fun ty => by
 have hb := (h.setx 5 vd).bn
 refine Lib.run_clear_slice _ 51 3 ty (.int .i64 0) Try.underlying51 int_zero rfl rfl gn 0 n n h0 (fun j hj => ?_) (fun j hj => ?_)
 ·rw [Nat.zero_add, hb.cell j (by omega)]
  rfl
 ·rw [Nat.zero_add]
  exact hb.free j
set_option maxHeartbeats 4000000 in
set_option maxRecDepth 100000 in
theorem phase_walk (n s t : Nat) (b : Bool) (A : Option Addr) (c : Nat) (l : List Arc) (bf : Nat) (f : List Int) (g gx gn : Nat) (rows : List (List Stp)) (nx : List Int) (vd : Value) (w : World) (hn : NetOk n l) (hf : FlowOk l f) (hr : RowsOk n l rows) (hs : s < n) (ht : t < n) (hst : s ≠ t)
  (hlc : l.length ≤ c) (hbal : Bal l.length (frOf l) (toOf l) n s t (dOf f)) (hro : ReadOk3 w gx gn bf A l g n rows) (hI : PhI w (fillCells n b A l.length c bf f.length g vd gn) gx gn bf nx f w) (hnl : nx.length = n) :
  Calls Try.prog 55 #[.pointer (some ⟨gx, 0, none⟩), .int .i64 s, .int .i64 t] w fun e w' => ∃ (nx' f' : List Int) (vd' : Value), nx'.length = n ∧ PhI w (fillCells n b A l.length c bf f'.length g vd' gn) gx gn bf nx' f' w' ∧ FlowOk l f' ∧ Bal l.length (frOf l) (toOf l) n s t (dOf f') ∧
   ((e = .returned (.bool false) ∧ f' = f ∧ ∃ d, Bf n s (Lk l f rows) d ∧ d t < 0) ∨ (e = .returned (.bool true) ∧ leaves l.length (frOf l) (toOf l) (dOf f) s < leaves l.length (frOf l) (toOf l) (dOf f') s)) := by
 have HN := zh hn
 have HF := zh hf
 have HR := zh hr
 have HLC := zh hlc
 have HB0 := zh hbal
 have HRO := zh hro
 have HNL := zh hnl
 have HST := zh hst
 have HI := zh hI
 have n0 := hn.n0
 have n1 := hn.n1
 have hfl : f.length ≤ 100000 := by rw [hf.len]; exact hn.ll
 obtain ⟨hl, base, hS⟩ := hro w (Kept.refl _ _)
 have HL := zh hl
 have HS := zh hS
 have HFC : Hid (Kd.C (Kd.int .i64) w (some ⟨bf, 0, none⟩) f.length f) := zh (hI.bb.reads (by omega))
 have x0 : w.cell? ⟨gx, 0, none⟩ = some (.int .i64 n) := (blk_cell hI.bx 0).trans rfl
 have x1 : w.cell? ⟨gx, 1, none⟩ = some (.bool b) := (blk_cell hI.bx 1).trans rfl
 have x2 : w.cell? ⟨gx, 2, none⟩ = some (.slice A l.length c) := (blk_cell hI.bx 2).trans rfl
 have x3 : w.cell? ⟨gx, 3, none⟩ = some (.slice (some ⟨bf, 0, none⟩) f.length f.length) := (blk_cell hI.bx 3).trans rfl
 have x4 : w.cell? ⟨gx, 4, none⟩ = some (.slice (some ⟨g, 0, none⟩) n n) := (blk_cell hI.bx 4).trans rfl
 clear hn hf hr hlc hro hnl hst hI hl hS hbal
 have hu := Try.underlying28
 have hu2 := Try.underlying87
 have hu3 := Try.underlying117
 have t0 : (0 : Int) ≤ (t : Int) := by omega
 have t1 : (t : Int) < (n : Int) := by omega
 go_enter Try.func55, Try.ntmps55
 go_wp2_with (go_at_call 34; refine (far_walk n s b A c l (some ⟨bf, 0, none⟩) f.length f g base rows _ HN.out HF.out HR.out hs ?s1 HLC.out ?s2 (Nat.le_refl _) ?s3).mono ?_; (case s1 => exact Kd.C_below HL.out zD); (case s2 => exact Kd.C_below HFC.out zD); (case s3 => exact Kd.S_below HS.out zD); rintro e w1 ⟨gd, d, rfl, hgd, hd, hdl, hbf, hb⟩; have HI1 := zh (HI.out.below (below_step zD hb)); have HGD := zh hd; have HGE : Hid (w.heap.size ≤ gd) := zh hgd; have HDL := zh hdl; have HBF := zh hbf; have hne : gx ≠ gd := (by have := HI.out.xl; have h9 : w.heap.size ≤ gd := hgd; omega); have hne' : gd ≠ gx := (fun e => hne e.symm); have y5 : w1.cell? ⟨gx, 5, none⟩ = some vd := (blk_cell HI1.out.bx 5).trans rfl; have z5 : w1.frozen? ⟨gx, 5, none⟩ = false := blk_frozen HI1.out.bx 5; have dt : w1.cell? ⟨gd, t, none⟩ = some (.int .i64 (rd d (t : Int))) := hd.cell t (by rw [hdl]; exact ht); have y6 : w1.cell? ⟨gx, 6, none⟩ = some (.slice (some ⟨gn, 0, none⟩) n n) := (blk_cell HI1.out.bx 6).trans rfl; have hcl := clear_next (vd := .slice (some ⟨gd, 0, none⟩) n n) HI1.out HNL.out n0; have HCL := zh hcl; clear x0 x1 x2 x3 x4 hgd hd hdl hbf hb; rcases (by omega : rd d (t : Int) < 0 ∨ 0 ≤ rd d (t : Int)) with hneg | hneg)
 ·go_ret
  exact ⟨nx, f, .slice (some ⟨gd, 0, none⟩) n n, HNL.out, HI1.out.setx 5 (.slice (some ⟨gd, 0, none⟩) n n), HF.out, HB0.out, .inl ⟨rfl, rfl, dOf d, HBF.out, hneg⟩⟩
 ·have HI2 : Hid (PhI w (fillCells n b A l.length c bf f.length g (.slice (some ⟨gd, 0, none⟩) n n) gn) gx gn bf (List.replicate n 0) f ((w1.setCell ⟨gx, 5, none⟩ (.slice (some ⟨gd, 0, none⟩) n n)).setCells gn 0 (List.replicate n (.int .i64 0)))) := zh (by
   have h1 := HI1.out.setx 5 (.slice (some ⟨gd, 0, none⟩) n n)
   obtain ⟨h2, h3, h4⟩ := cleared n _ nx 0 h1.bn
   have e : zeroed nx 0 n = List.replicate n 0 := by rw [← HNL.out]; exact zeroed_all nx
   rw [e] at h2
   exact h1.down h3 h4 h2)
  have HGD2 : Hid (IntBlk ((w1.setCell ⟨gx, 5, none⟩ (.slice (some ⟨gd, 0, none⟩) n n)).setCells gn 0 (List.replicate n (.int .i64 0))) gd d ∧ gd ≠ gx ∧ gd ≠ gn ∧ gd ≠ bf ∧ w.heap.size ≤ gd) := zh (by
   have h1 := HI1.out.setx 5 (.slice (some ⟨gd, 0, none⟩) n n)
   obtain ⟨h2, h3, h4⟩ := cleared n _ nx 0 h1.bn
   have hk : Kept w1 (w1.setCell ⟨gx, 5, none⟩ (.slice (some ⟨gd, 0, none⟩) n n)) (fun k => k = gx) := Kept.setCell (S := fun k => k = gx) (p := ⟨gx, 5, none⟩) (Kept.refl w1 _) (Or.inl rfl) _
   have g1 := h1.nl
   have g2 := h1.bl
   have g3 := HGE.out
   exact ⟨(HGD.out.kept hk hne').kept h3 (by omega), hne', by omega, by omega, g3⟩)
  generalize ((w1.setCell ⟨gx, 5, none⟩ (.slice (some ⟨gd, 0, none⟩) n n)).setCells gn 0 (List.replicate n (.int .i64 0))) = W2 at HI2 HGD2 ⊢
  clear HGD HI1 y5 z5 y6 dt HCL hcl
  go_loopg [] ((takes l.length (frOf l) (toOf l) (capOf l) (fun v => decide (v = (s : Int))) - leaves l.length (frOf l) (toOf l) (dOf f) s).toNat + 1) (fun k W => ∃ (nx2 f2 : List Int), Hid (PhI w (fillCells n b A l.length c bf f2.length g (.slice (some ⟨gd, 0, none⟩) n n) gn) gx gn bf nx2 f2 W) ∧ Hid (IntBlk W gd d) ∧ Hid (FlowOk l f2) ∧ Hid (Bal l.length (frOf l) (toOf l) n s t (dOf f2)) ∧ Hid (nx2.length = n ∧ ∀ u, u < n → 0 ≤ dOf nx2 u ∧ dOf nx2 u ≤ ((rows.getD u []).length : Int)) ∧ Hid (leaves l.length (frOf l) (toOf l) (dOf f) s < leaves l.length (frOf l) (toOf l) (dOf f2) s ∨ (f2 = f ∧ ∀ u, u < n → dOf nx2 u = 0)) ∧ Hid ((takes l.length (frOf l) (toOf l) (capOf l) (fun v => decide (v = (s : Int))) - leaves l.length (frOf l) (toOf l) (dOf f2) s).toNat < k))
  case atStart => exact ⟨_, f, HI2, zh HGD2.out.1, HF, HB0, zh ⟨List.length_replicate, fun u hu => by rw [zero_at u hu]; exact ⟨Int.le_refl _, Int.natCast_nonneg _⟩⟩, zh (.inr ⟨rfl, fun u hu => zero_at u hu⟩), zh (Nat.lt_succ_self _)⟩
  case round =>
   obtain ⟨nx2, f2, HI, HGD3, HF2, HB2, HNX, HV, HK⟩ := hrel
   have hrd := read_down HRO.out HI.out.kept HI.out.bb HI.out.nb (by rw [HF2.out.len]; have := HN.out.ll; omega)
   have HRD := zh hrd
   have HDB := HGD2.out
   have HGDX := zh HDB.2
   clear hrd HDB
   go_wp2_with (first
    |(go_at_call 78; refine (down_walk n s t b A c l (some ⟨bf, 0, none⟩) f2.length f2 g gx gd gn rows d nx2 _ HN.out HF2.out HR.out hs ht HST.out HLC.out (Nat.le_refl _) HRD.out HI.out.bx HGD3.out HI.out.bn HDL.out HNX.out.1 HGDX.out.2.1 HI.out.xn HBF.out.1 HBF.out.2.2.2.2 HNX.out.2).mono ?_; rintro e w3 ⟨nx3, hn3, hl3, hnb3, hk3, hs3, hcase⟩; have HI3 := zh (HI.out.down hk3 hs3 hn3); have HNX3 := zh (And.intro hl3 hnb3); have HGD4 := zh (HGD3.out.kept hk3 HGDX.out.2.1); clear hn3 hl3 hnb3; rcases hcase with ⟨rfl, hdead⟩ | ⟨vw, way, rfl, hR, hW, hwl⟩; rotate_left; (obtain ⟨K9, r9, hle, hr0, hr1, hrr⟩ := least_f b HN.out HF2.out hW HST.out hwl; obtain ⟨Aw, cw, rfl⟩ := Kd.R_slice hR; have x0 : w3.cell? ⟨gx, 0, none⟩ = some (.int .i64 n) := (blk_cell HI3.out.bx 0).trans rfl; have x1 : w3.cell? ⟨gx, 1, none⟩ = some (.bool b) := (blk_cell HI3.out.bx 1).trans rfl; have x2 : w3.cell? ⟨gx, 2, none⟩ = some (.slice A l.length c) := (blk_cell HI3.out.bx 2).trans rfl; have x3 : w3.cell? ⟨gx, 3, none⟩ = some (.slice (some ⟨bf, 0, none⟩) f2.length f2.length) := (blk_cell HI3.out.bx 3).trans rfl; have HLE := zh hle; have HR0 := zh hr0; have HR1 := zh hr1; have HRR := zh hrr; have HRW := zh hR; have HW := zh hW; have HWL := zh hwl; clear hle hr0 hr1 hrr hR hW hwl); rotate_left)
    |(go_at_call 79; refine (static_Flowing_Least.calls K9 n b A c l (some ⟨bf, 0, none⟩) f2.length f2 Aw cw way r9 _ ?s1 HLC.out ?s2 (Nat.le_refl _) ?s3 ?s4 HLE.out).mono ?_; (case s1 => exact (HRO.out _ HI3.out.kept).1); (case s2 => exact HI3.out.bb.reads (by rw [HF2.out.len]; have := HN.out.ll; omega)); (case s3 => exact (Kd.R_reads' HRW.out).2.2); (case s4 => exact (Kd.R_reads' HRW.out).2.1); rintro e w4 ⟨rfl, hb⟩; have HI4 := zh (HI3.out.below hb); have HGD5 := zh (blk_below HGD4.out hb); have HRW4 := zh (Kd.R_below HRW.out hb); clear x0 x1 x2 x3 hb))
   ·go_ret
    have hv : leaves l.length (frOf l) (toOf l) (dOf f) s < leaves l.length (frOf l) (toOf l) (dOf f2) s := by
     rcases HV.out with h | ⟨e, hz⟩
     ·exact h
     ·subst e
      exact absurd (alive_start HN.out HF.out HR.out HBF.out ht hneg) (hdead (dead_zero hz))
    exact ⟨nx3, f2, .slice (some ⟨gd, 0, none⟩) n n, HNX3.out.1, HI3.out, HF2.out, HB2.out, .inr ⟨rfl, hv⟩⟩
   ·have hB9 : w.heap.size ≤ wr.heap.size := HI.out.kept.1
    clear HI HGD3 HNX HRD HI3 HGD4 HRW hk3 hs3
    generalize wr.heap.size = B9 at HRW4 hB9
    have HB9 := zh hB9
    clear hB9
    go_loopg [51] (way.length + 1) (fun k jv W => ∃ j : Nat, j ≤ way.length ∧ jv = .int .i64 j ∧ k = way.length + 1 - j ∧ Hid (PhI w (fillCells n b A l.length c bf f2.length g (.slice (some ⟨gd, 0, none⟩) n n) gn) gx gn bf nx3 (goL f2 (way.take j) r9) W ∧ IntBlk W gd d ∧ Kd.R kStep 105 W B9 (fun k => B9 ≤ k) (.slice Aw way.length cw) way))
    case atStart => exact ⟨0, Nat.zero_le _, rfl, rfl, zh ⟨HI4.out, HGD5.out, HRW4.out⟩⟩
    case round =>
     obtain ⟨j, hj, rfl, rfl, HJ⟩ := hrel
     clear HI4 HGD5 HRW4
     by_cases hjl : j < way.length
     ·obtain ⟨x, hx⟩ : ∃ x, x = way.getD j ⟨0, false⟩ := ⟨_, rfl⟩
      have hxm : x ∈ way := by rw [hx]; exact getD_mem hjl _
      obtain ⟨hx0, hx1⟩ := HW.out.arcs x hxm
      obtain ⟨ga, ea, hga, y0, y1⟩ := step_cells (Kd.R_mono HJ.out.2.2 (fun _ _ => trivial)) j hjl
      subst ea
      rw [← hx] at y0 y1
      obtain ⟨f3, hf3⟩ : ∃ f3, f3 = goL f2 (way.take j) r9 := ⟨_, rfl⟩
      have HI5 : Hid (PhI w (fillCells n b A l.length c bf f2.length g (.slice (some ⟨gd, 0, none⟩) n n) gn) gx gn bf nx3 f3 wr) := zh (by rw [hf3]; exact HJ.out.1)
      have HF3 : Hid (FlowOk l f3) := zh (by rw [hf3]; exact push_flow HF2.out HW.out (Int.le_of_lt HR0.out) HRR.out j)
      have hl3 : f3.length = f2.length := by rw [hf3, goL_len]
      have HGO := zh (go_f (n : Int) b l f3 x r9 hx0 (by rw [HF3.out.len]; exact hx1) ⟨Int.le_of_lt HR0.out, HR1.out⟩ ⟨(HF3.out.wit x.f0 hx0 hx1).1, Int.le_trans (HF3.out.wit x.f0 hx0 hx1).2 (HN.out.caps x.f0 hx0 hx1)⟩)
      have HF3E := zh hf3
      have HL3 := zh hl3
      have HX := zh hx
      have j0 : (0 : Int) ≤ (j : Int) := by omega
      have j1 : (j : Int) < (way.length : Int) := by omega
      clear hx hxm hx0 hx1 hf3 hl3
      go_wp2_with ((with_reducible refine gate_dst (N := 11) rfl ?_); refine box_event ?hg (N := 11) ?hd (cs := #[.int .i64 0, .bool false]) (t := 105) ?hr ?_; (case hd => rfl); (case hg => rfl); (case hr => first | (go_simp; done) | (go_simp; rfl)); intro gs hg w17 hbox hb; have hgs : wr.heap.size ≤ gs := Nat.le_of_eq hg.symm; have hgx : gx ≠ gs := (by have := blk_lt HI5.out.bx; omega); have hgb : gs ≠ bf := (by have := blk_lt HI5.out.bb; omega); have HBX := zh hbox; have HB17 := zh hb; have HGS := zh hgs; have s0 : w17.cell? ⟨gs, 0, none⟩ = some (.int .i64 0) := (blk_cell hbox 0).trans rfl; have s1 : w17.cell? ⟨gs, 1, none⟩ = some (.bool false) := (blk_cell hbox 1).trans rfl; have f0 := blk_frozen hbox 0; have f1 := blk_frozen hbox 1; clear hbox hb hg hgs)
      have HB8 : Below wr.heap.size wr ((w17.setCell ⟨gs, 0, none⟩ (.int .i64 x.f0)).setCell ⟨gs, 1, none⟩ (.bool x.f1)) := below_set (below_set HB17.out HGS.out) HGS.out
      have HS8 : ((w17.setCell ⟨gs, 0, none⟩ (.int .i64 x.f0)).setCell ⟨gs, 1, none⟩ (.bool x.f1)).heap[gs]? = some (.cells #[.int .i64 x.f0, .bool x.f1] 105 (0, 0)) := blk_put (cs := #[.int .i64 x.f0, .bool false]) (blk_put (cs := #[.int .i64 0, .bool false]) HBX.out 0 (.int .i64 x.f0) rfl) 1 (.bool x.f1) rfl
      generalize ((w17.setCell ⟨gs, 0, none⟩ (.int .i64 x.f0)).setCell ⟨gs, 1, none⟩ (.bool x.f1)) = W8 at HB8 HS8 ⊢
      have HI8 := zh (HI5.out.below HB8)
      have HJ8 := zh (And.intro (show IntBlk W8 gd d from blk_below HJ.out.2.1 HB8) (Kd.R_below HJ.out.2.2 HB8))
      have s0' : W8.cell? ⟨gs, 0, none⟩ = some (.int .i64 x.f0) := (blk_cell HS8 0).trans rfl
      have s1' : W8.cell? ⟨gs, 1, none⟩ = some (.bool x.f1) := (blk_cell HS8 1).trans rfl
      have hS8 := zh HS8
      clear s0 s1 f0 f1 HBX HB17 HGS HS8 HB8 y0 y1
      have x0 : W8.cell? ⟨gx, 0, none⟩ = some (.int .i64 n) := (blk_cell HI8.out.bx 0).trans rfl; have x1 : W8.cell? ⟨gx, 1, none⟩ = some (.bool b) := (blk_cell HI8.out.bx 1).trans rfl; have x2 : W8.cell? ⟨gx, 2, none⟩ = some (.slice A l.length c) := (blk_cell HI8.out.bx 2).trans rfl; have x3 : W8.cell? ⟨gx, 3, none⟩ = some (.slice (some ⟨bf, 0, none⟩) f2.length f2.length) := (blk_cell HI8.out.bx 3).trans rfl
      go_region_held3 (fun w' => w'.cell? ⟨gx, 0, none⟩ = some (.int .i64 n) ∧ w'.cell? ⟨gx, 1, none⟩ = some (.bool b) ∧ w'.cell? ⟨gx, 2, none⟩ = some (.slice A l.length c) ∧ w'.cell? ⟨gx, 3, none⟩ = some (.slice (some ⟨bf, 0, none⟩) f2.length f2.length) ∧ w'.cell? ⟨gs, 0, none⟩ = some (.int .i64 x.f0) ∧ w'.cell? ⟨gs, 1, none⟩ = some (.bool x.f1)) (first | exact HS9.out | go_keep) ((go_at_call 80; refine (static_Flowing_Go.calls n b A c l (fun k => k = bf) (.slice (some ⟨bf, 0, none⟩) f2.length f2.length) f3 x.f0 x.f1 r9 (goF f3 x r9) (bare w) _ ?s1 ?s2 HLC.out ?s3 HGO.out).mono ?_; (case s1 => exact below_bare _ _ ((HI8.out.below zD).stay)); (case s2 => exact fun W9 hk9 => (HRO.out _ ((HI8.out.below zD).kept.then_ hk9 (fun k e => .inl (.inr (.inr e))))).1); (case s3 => rw [← HL3.out]; exact r_of_blk (HI8.out.below zD).bb (by rw [HF3.out.len]; exact HN.out.ll)); rintro e w9 ⟨rfl, hR9, hb9, hk9⟩; have HI9 := zh ((HI8.out.below zD).push hk9 (stay_bare (HI8.out.below zD).stay hb9) (blk_of_R (by rw [goF_len, HL3.out]; exact hR9))); have HJ9 := zh (And.intro ((show IntBlk _ gd d from blk_below HJ8.out.1 zD).kept hk9 HGDX.out.2.2.1) (Kd.R_step (Kd.R_below HJ8.out.2 zD) (fun k (hk : B9 ≤ k) hlt => hk9.2 k hlt (by have h1 := HI8.out.bl; have h2 := HB9.out; omega)))); have hs9 := blk_kept (show _ from blk_below hS8.out zD) hk9 hgb; have HS9 := zh (show w9.cell? ⟨gx, 0, none⟩ = some (.int .i64 n) ∧ w9.cell? ⟨gx, 1, none⟩ = some (.bool b) ∧ w9.cell? ⟨gx, 2, none⟩ = some (.slice A l.length c) ∧ w9.cell? ⟨gx, 3, none⟩ = some (.slice (some ⟨bf, 0, none⟩) f2.length f2.length) ∧ w9.cell? ⟨gs, 0, none⟩ = some (.int .i64 x.f0) ∧ w9.cell? ⟨gs, 1, none⟩ = some (.bool x.f1) from ⟨(blk_cell HI9.out.bx 0).trans rfl, (blk_cell HI9.out.bx 1).trans rfl, (blk_cell HI9.out.bx 2).trans rfl, (blk_cell HI9.out.bx 3).trans rfl, (blk_cell hs9 0).trans rfl, (blk_cell hs9 1).trans rfl⟩)))
      all_goals
       go_wp2
       go_roundg (way.length - j)
       case measure => omega
       case rel => exact ⟨j + 1, by omega, by rw [w1n j (by have := HWL.out; omega)], by omega, zh ⟨by rw [take_pushS hjl, goL_snoc, ← HX.out, ← HF3E.out]; exact HI9.out, HJ9.out.1, HJ9.out.2⟩⟩
     ·have e : j = way.length := by omega
      subst e
      have hfl := push_flow HF2.out HW.out (Int.le_of_lt HR0.out) HRR.out way.length
      rw [List.take_length] at hfl
      have hpv := push_value (k := r9) HF2.out HW.out HST.out HB2.out
      have hpt := value_top HN.out hfl hpv.1 hs HST.out
      have HI5 : Hid (PhI w (fillCells n b A l.length c bf (goL f2 way r9).length g (.slice (some ⟨gd, 0, none⟩) n n) gn) gx gn bf nx3 (goL f2 way r9) wr) := zh (by
       have h9 := HJ.out.1
       rw [List.take_length] at h9
       rw [goL_len]
       exact h9)
      have HPV := zh hpv
      have HPT := zh hpt
      have HFL := zh hfl
      clear hfl hpv hpt hjl
      go_wp2
      go_roundg ((takes l.length (frOf l) (toOf l) (capOf l) (fun v => decide (v = (s : Int))) - leaves l.length (frOf l) (toOf l) (dOf f2) s).toNat)
      case measure => exact HK.out
      case rel =>
       refine ⟨nx3, goL f2 way r9, HI5, zh HJ.out.2.1, HFL, zh HPV.out.1, HNX3, zh (.inl ?_), zh ?_⟩
       ·have h1 := HPV.out.2
        have h2 := HR0.out
        rcases HV.out with h3 | ⟨h3, _⟩
        ·omega
        ·subst h3; omega
       ·have h1 := HPV.out.2
        have h2 := HR0.out
        have h3 := HPT.out
        omega
section
variable {w0 : World} {xs ys : Array Value} {gx gn bf : Nat} {nx f nx2 f2 : List Int} {W W1 : World}
theorem PhI.now (h : PhI w0 xs gx gn bf nx f W) : PhI W xs gx gn bf nx f W :=
 ⟨h.bx, h.bn, h.bb, Kept.refl _ _, ⟨rfl, rfl, rfl⟩, blk_lt h.bx, blk_lt h.bn, blk_lt h.bb, h.xn, h.xb, h.nb⟩
theorem PhI.later (h : PhI w0 xs gx gn bf nx f W) (k : PhI W ys gx gn bf nx2 f2 W1) : PhI w0 ys gx gn bf nx2 f2 W1 :=
 ⟨k.bx, k.bn, k.bb, h.kept.then_ k.kept (fun _ e => .inl e), h.stay.then_ k.stay, h.xl, h.nl, h.bl, h.xn, h.xb, h.nb⟩
end
theorem ReadOk3.later {w W : World} {gx gn bf : Nat} {A : Option Addr} {l : List Arc} {g n : Nat} {rows : List (List Stp)} (h : ReadOk3 w gx gn bf A l g n rows) (hk : Kept w W (three gx gn bf)) : ReadOk3 W gx gn bf A l g n rows :=
 fun W2 hk2 => h W2 (hk.then_ hk2 (fun _ e => .inl e))
theorem refill_read {w W : World} {gx gn bf : Nat} {A : Option Addr} {l : List Arc} {g n base : Nat} {rows : List (List Stp)} {f nx : List Int} {xs : Array Value} (hsep : ∀ W, Kept w W (fun k => k = bf) → Kd.C k48 W A l.length l) (hb : Below w.heap.size w W)
  (hS : Kd.S kSteps 103 W base (fun _ => True) (.slice (some ⟨g, 0, none⟩) n n) rows) (hx : W.heap[gx]? = some (.cells xs 117 (0, 0))) (hn : IntBlk W gn nx) (hf : IntBlk W bf f) (gxl : w.heap.size ≤ gx) (gnl : w.heap.size ≤ gn) : ReadOk3 W gx gn bf A l g n rows := by
 intro W2 hk
 refine ⟨hsep W2 ((Kept.of_below hb _).then_ hk (fun k e => ?_)), base, ?_⟩
 ·rcases e with rfl | rfl | rfl
  ·exact .inr gxl
  ·exact .inr gnl
  ·exact .inl rfl
 ·have h1 := Kd.S_types (Kd.S_types (Kd.S_types hS hx (by decide)) hn (by decide)) hf (by decide)
  refine Kd.S_mono (Kd.S_kept h1 hk (fun k ho e => ?_)) (fun _ _ => trivial)
  rcases e with e | e | e
  ·exact ho.1.1.2 e
  ·exact ho.1.2 e
  ·exact ho.2 e
theorem refill_start {w W : World} {gx gn bf : Nat} {A : Option Addr} {l : List Arc} {b : Bool} {g n c base : Nat} {rows : List (List Stp)} {f : List Int} {vd : Value} (hsep : ∀ W, Kept w W (fun k => k = bf) → Kd.C k48 W A l.length l) (hF : IntBlk w bf f) (hb : Below w.heap.size w W)
  (hS : Kd.S kSteps 103 W base (fun _ => True) (.slice (some ⟨g, 0, none⟩) n n) rows) (hx : W.heap[gx]? = some (.cells (fillCells n b A l.length c bf f.length g vd gn) 117 (0, 0))) (hn : IntBlk W gn (List.replicate n 0)) (gxl : w.heap.size ≤ gx) (gnl : w.heap.size ≤ gn) (hne : gx ≠ gn) :
  PhI W (fillCells n b A l.length c bf f.length g vd gn) gx gn bf (List.replicate n 0) f W ∧ ReadOk3 W gx gn bf A l g n rows ∧ Kept w W (fun k => k = bf) ∧ Stay w W ∧ w.heap.size ≤ gx ∧ w.heap.size ≤ gn := by
 have hF2 : IntBlk W bf f := blk_below hF hb
 have hlt := blk_lt hF
 refine ⟨⟨hx, hn, hF2, Kept.refl _ _, ⟨rfl, rfl, rfl⟩, blk_lt hx, blk_lt hn, blk_lt hF2, hne, by omega, by omega⟩, refill_read hsep hb hS hx hn hF2 gxl gnl, Kept.of_below hb _, Stay.of_below hb, gxl, gnl⟩
set_option maxHeartbeats 4000000 in
set_option maxRecDepth 100000 in
theorem refill_walk (n s t : Nat) (b : Bool) (A : Option Addr) (c : Nat) (l : List Arc) (bf : Nat) (f : List Int) (w : World) (hn : NetOk n l) (hf : FlowOk l f) (hs : s < n) (ht : t < n) (hst : s ≠ t)
  (hlc : l.length ≤ c) (hbal : Bal l.length (frOf l) (toOf l) n s t (dOf f)) (hF : IntBlk w bf f) (hsep : ∀ W, Kept w W (fun k => k = bf) → Kd.C k48 W A l.length l) :
  Calls Try.prog 45 #[.agg #[.int .i64 n, .bool b, .slice A l.length c], .slice (some ⟨bf, 0, none⟩) f.length f.length, .int .i64 s, .int .i64 t] w fun e w' => e = .returned (.tuple #[]) ∧ ∃ (f2 : List Int) (S : Int → Bool), IntBlk w' bf f2 ∧ FlowOk l f2 ∧ Top l.length (frOf l) (toOf l) n s t (capOf l) (dOf f2) S ∧ leaves l.length (frOf l) (toOf l) (dOf f) s ≤ leaves l.length (frOf l) (toOf l) (dOf f2) s ∧ Kept w w' (fun k => k = bf) ∧ Stay w w' := by
 have HN := zh hn
 have HF := zh hf
 have HLC := zh hlc
 have HB := zh hbal
 have HBF := zh hF
 have HSEP := zh hsep
 have HST := zh hst
 have n0 := hn.n0
 have n1 := hn.n1
 clear hn hf hlc hbal hF hsep hst
 have hu := Try.underlying28
 have hu2 := Try.underlying87
 have hu3 := Try.underlying117
 have hmk : ∀ W : World, (Instr.makeSlice 51 (.int .i64 (n : Int)) (.int .i64 (n : Int))).run Try.prog W = .ok (.slice (some ⟨W.heap.size, 0, none⟩) n n) (W.alloc (.cells (madeCells #[.int .i64 0] n) 3)) := fun W => by
  obtain ⟨i0, hi, hz0, hz1, hz2⟩ := info_parts infoInt
  have := run_make (P := Try.prog) W 51 3 i0 (.int .i64 0) Try.underlying51 hi hz0 .i64 .i64 (n : Int) (n : Int) (by omega) (by omega) (by rw [hz2]; omega) (by omega)
  rw [hz1, Int.toNat_natCast, Nat.mul_one] at this
  exact this
 go_enter Try.func45, Try.ntmps45
 go_wp2
 rename_i Q0 K0 aK
 have fin : ∀ (g gx gn : Nat) (rows : List (List Stp)) (W : World), Hid (RowsOk n l rows) → Hid (PhI W (fillCells n b A l.length c bf f.length g (.slice none 0 0) gn) gx gn bf (List.replicate n 0) f W ∧ ReadOk3 W gx gn bf A l g n rows ∧ Kept w W (fun k => k = bf) ∧ Stay w W ∧ w.heap.size ≤ gx ∧ w.heap.size ≤ gn) →
   K0 { tmps := #[.agg #[.int .i64 n, .bool b, .slice A l.length c], .slice (some ⟨bf, 0, none⟩) f.length f.length, .int .i64 s, .int .i64 t, .pointer (some ⟨w.heap.size, 0, none⟩), undef, undef, undef, .pointer (some ⟨gx, 0, none⟩), .agg #[.int .i64 n, .bool b, .slice A l.length c], .slice (some ⟨bf, 0, none⟩) f.length f.length, .agg #[.int .i64 n, .bool b, .slice A l.length c, .slice (some ⟨bf, 0, none⟩) f.length f.length, .slice (some ⟨g, 0, none⟩) n n], .pointer (some ⟨w.heap.size, 0, none⟩), .int .i64 n, .slice (some ⟨gn, 0, none⟩) n n, .agg #[.int .i64 n, .bool b, .slice A l.length c, .slice (some ⟨bf, 0, none⟩) f.length f.length, .slice (some ⟨g, 0, none⟩) n n, .slice none 0 0, .slice (some ⟨gn, 0, none⟩) n n], .pointer (some ⟨gx, 0, none⟩), undef, undef, undef, undef], defers := [] } W := by
  intro g gx gn rows W HR HP
  clear hmk
  refine aK _ _ ?_
  clear aK K0
  have HW := zh HP.out.2
  go_wp2
  go_loopg [] ((takes l.length (frOf l) (toOf l) (capOf l) (fun v => decide (v = (s : Int))) - leaves l.length (frOf l) (toOf l) (dOf f) s).toNat + 1) (fun k W1 => ∃ (nx2 f2 : List Int) (vd : Value), Hid (PhI W (fillCells n b A l.length c bf f2.length g vd gn) gx gn bf nx2 f2 W1) ∧ Hid (FlowOk l f2) ∧ Hid (Bal l.length (frOf l) (toOf l) n s t (dOf f2)) ∧ Hid (nx2.length = n) ∧ Hid (leaves l.length (frOf l) (toOf l) (dOf f) s ≤ leaves l.length (frOf l) (toOf l) (dOf f2) s) ∧ Hid ((takes l.length (frOf l) (toOf l) (capOf l) (fun v => decide (v = (s : Int))) - leaves l.length (frOf l) (toOf l) (dOf f2) s).toNat < k))
  case atStart => exact ⟨_, f, _, zh HP.out.1, HF, HB, zh List.length_replicate, zh (Int.le_refl _), zh (Nat.lt_succ_self _)⟩
  case round =>
   obtain ⟨nx2, f2, vd, HI, HF2, HB2, HNX, HV, HK⟩ := hrel
   clear HP
   go_wp2_with (go_at_call 55; refine (phase_walk n s t b A c l bf f2 g gx gn rows nx2 vd _ HN.out HF2.out HR.out hs ht HST.out HLC.out HB2.out (HW.out.1.later HI.out.kept) HI.out.now HNX.out).mono ?_; rintro e w3 ⟨nx3, f3, vd3, hnx3, hI3, hF3, hB3, hcase⟩; have HI3 := zh (HI.out.later hI3); have HNX3 := zh hnx3; have HF3 := zh hF3; have HB3 := zh hB3; clear hnx3 hI3 hF3 hB3; rcases hcase with ⟨rfl, rfl, hbf⟩ | ⟨rfl, hlt⟩)
   ·go_end0
    obtain ⟨d, hbf, hneg⟩ := hbf
    refine ⟨rfl, f3, fun v => decide (0 ≤ d v.toNat), HI3.out.bb, HF3.out, ⟨within_of HF3.out, HB3.out, bf_closed HN.out HF3.out HR.out hbf, ?_, ?_⟩, HV.out, HW.out.2.1.then_ HI3.out.kept (fun k e => ?_), HW.out.2.2.1.then_ HI3.out.stay⟩
    ·simp [hbf.1]
    ·simp; omega
    ·rcases e with rfl | rfl | rfl
     ·exact .inr HW.out.2.2.2.1
     ·exact .inr HW.out.2.2.2.2
     ·exact .inl rfl
   ·go_roundg ((takes l.length (frOf l) (toOf l) (capOf l) (fun v => decide (v = (s : Int))) - leaves l.length (frOf l) (toOf l) (dOf f2) s).toNat)
    case measure => exact HK.out
    case rel =>
     have hpt := value_top HN.out HF3.out HB3.out hs HST.out
     exact ⟨nx3, f3, vd3, HI3, HF3, HB3, HNX3, zh (by have := HV.out; omega), zh (by omega)⟩
 go_region_held3 (fun w' => w'.cell? ⟨w.heap.size, 0, none⟩ = some (.int .i64 n) ∧ w'.cell? ⟨w.heap.size, 1, none⟩ = some (.bool b) ∧ w'.cell? ⟨w.heap.size, 2, none⟩ = some (.slice A l.length c)) (first | go_keep | (refine (fun (h : _ ∧ _ ∧ _) => ⟨pw_cell_below hb (h.1), pw_cell_below hb (h.2.1), pw_cell_below hb (h.2.2)⟩) ?_; assumption)) ((go_at_call 33; refine (at_net n b A c l (some ⟨bf, 0, none⟩) f.length f.length _ HN.out ?s1 HLC.out).mono ?_; (case s1 => exact HSEP.out _ (Kept.of_below (by repeat (first | (with_reducible exact Below.refl _ _) | apply below_drew | apply below_alloc)) _)); rintro e w1 ⟨g, rows, rfl, hS, hR, hb⟩))
 all_goals
  show K0 _ _
 ·have HP := zh (refill_start (W := (w1.alloc (.cells (madeCells #[.int .i64 0] n) 3)).alloc (.cells (fillCells n b A l.length c bf f.length g (.slice none 0 0) w1.heap.size) 117)) (gx := w1.heap.size + 1) (gn := w1.heap.size) (vd := .slice none 0 0) (b := b) (c := c) HSEP.out HBF.out (by refine below_alloc (below_alloc ?_ _) _; exact below_step (by repeat (first | (with_reducible exact Below.refl _ _) | apply below_drew | apply below_alloc)) hb) (by exact Kd.S_alloc (Kd.S_alloc hS _) _) (by exact alloc_at (by rw [alloc_size])) (by exact blk_below (made_blk w1 n) (below_alloc (Below.refl _ _) _)) (by have := hb.size; simp at this; omega) (by have := hb.size; simp at this; omega) (by omega))
  exact fin g (w1.heap.size + 1) w1.heap.size rows _ (zh hR) HP
 ·have HP := zh (refill_start (W := w1.alloc (.cells (fillCells n b A l.length c bf f.length g (.slice none 0 0) (w.heap.size + 1)) 117)) (gx := w1.heap.size) (gn := w.heap.size + 1) (vd := .slice none 0 0) (b := b) (c := c) HSEP.out HBF.out (by refine below_alloc ?_ _; exact below_step (by repeat (first | (with_reducible exact Below.refl _ _) | apply below_drew | apply below_alloc)) hb) (by exact Kd.S_alloc hS _) (by exact alloc_at rfl) (by have h9 := made_blk (w.alloc (.cells #[.int .i64 n, .bool b, .slice A l.length c] 28)) n; rw [alloc_size] at h9; exact blk_below (blk_below (blk_drew h9) hb) (below_alloc (Below.refl _ _) _)) (by have := hb.size; simp at this; omega) (by omega) (by have := hb.size; simp at this; omega))
  exact fin g w1.heap.size (w.heap.size + 1) rows _ (zh hR) HP
theorem heapArc : Kd.Heap k48 := Kd.heap_iso _ (Kd.heap_pair (Kd.heap_int _) (Kd.heap_pair (Kd.heap_int _) (Kd.heap_pair (Kd.heap_int _) (Kd.heap_int _))))
theorem zero_flow {n : Nat} {l : List Arc} {s t : Int} (hcap : ∀ i : Int, 0 ≤ i → i < l.length → 0 ≤ (rd_T48 l i).f2) : FlowOk l (List.replicate l.length 0) ∧ Bal l.length (frOf l) (toOf l) n s t (dOf (List.replicate l.length 0)) := by
 have hz : ∀ i : Nat, dOf (List.replicate l.length 0) i = 0 := fun i => by
  unfold dOf rd
  rw [Int.toNat_natCast]
  simp [List.getElem?_replicate]
  split <;> rfl
 refine ⟨⟨List.length_replicate, fun i h0 h1 => ?_⟩, fun v _ _ _ => ?_⟩
 ·obtain ⟨k, rfl⟩ := Int.eq_ofNat_of_zero_le h0
  have := hz k
  unfold dOf at this
  rw [this]
  exact ⟨Int.le_refl _, hcap k h0 h1⟩
 ·refine sumN_zero _ (fun i _ => ?_)
  rw [hz i]
  split <;> split <;> rfl
theorem refill_at (n s t : Nat) (b : Bool) (A : Option Addr) (c : Nat) (l : List Arc) (bf : Nat) (f : List Int) (m : Nat) (hm : f.length = m) (w : World) (hn : NetOk n l) (hf : FlowOk l f) (hs : s < n) (ht : t < n) (hst : s ≠ t)
  (hlc : l.length ≤ c) (hbal : Bal l.length (frOf l) (toOf l) n s t (dOf f)) (hF : IntBlk w bf f) (hsep : ∀ W, Kept w W (fun k => k = bf) → Kd.C k48 W A l.length l) :
  Calls Try.prog 45 #[.agg #[.int .i64 n, .bool b, .slice A l.length c], .slice (some ⟨bf, 0, none⟩) m m, .int .i64 s, .int .i64 t] w fun e w' => e = .returned (.tuple #[]) ∧ ∃ (f2 : List Int) (S : Int → Bool), IntBlk w' bf f2 ∧ FlowOk l f2 ∧ Top l.length (frOf l) (toOf l) n s t (capOf l) (dOf f2) S ∧ leaves l.length (frOf l) (toOf l) (dOf f) s ≤ leaves l.length (frOf l) (toOf l) (dOf f2) s ∧ Kept w w' (fun k => k = bf) ∧ Stay w w' := by
 subst hm
 exact refill_walk n s t b A c l bf f w hn hf hs ht hst hlc hbal hF hsep
theorem reached_at (k : Nat) (A : Option Addr) (c : Nat) (d : List Int) (n : Nat) (hn : d.length = n) (r : List Bool) (w : World) (hr : Kd.C (Kd.int .i64) w A d.length d) (hc : d.length ≤ c) (h : mincut_reached.f k d = some r) :
  Calls Try.prog 32 #[.slice A n c] w fun e w' => ∃ v : Value, e = .returned v ∧ Kd.R Kd.bool 4 w' w.heap.size (fun _ => True) v r ∧ Below w.heap.size w w' := by
 subst hn
 exact mincut_reached.calls k A c d r w hr hc h
set_option maxHeartbeats 4000000 in
set_option maxRecDepth 100000 in
theorem fill_walk (n s t : Nat) (b : Bool) (A : Option Addr) (c : Nat) (l : List Arc) (w : World) (hn : NetOk n l) (hcap : ∀ i : Int, 0 ≤ i → i < l.length → 0 ≤ (rd_T48 l i).f2) (hs : s < n) (ht : t < n) (hst : s ≠ t)
  (hlc : l.length ≤ c) (hr : Kd.C k48 w A l.length l) :
  Calls Try.prog 25 #[.agg #[.int .i64 n, .bool b, .slice A l.length c], .int .i64 s, .int .i64 t] w fun e w' => ∃ (bf : Nat) (f : List Int) (S : Int → Bool), e = .returned (.slice (some ⟨bf, 0, none⟩) l.length l.length) ∧ w.heap.size ≤ bf ∧ IntBlk w' bf f ∧ FlowOk l f ∧ Top l.length (frOf l) (toOf l) n s t (capOf l) (dOf f) S ∧ Below w.heap.size w w' := by
 have HN := zh hn
 have HC := zh hcap
 have HLC := zh hlc
 have HR := zh hr
 have HST := zh hst
 have hll := hn.ll
 clear hn hcap hlc hr hst
 have hu := Try.underlying28
 have hmk : ∀ W : World, (Instr.makeSlice 51 (.int .i64 (l.length : Int)) (.int .i64 (l.length : Int))).run Try.prog W = .ok (.slice (some ⟨W.heap.size, 0, none⟩) l.length l.length) (W.alloc (.cells (madeCells #[.int .i64 0] l.length) 3)) := fun W => by
  obtain ⟨i0, hi, hz0, hz1, hz2⟩ := info_parts infoInt
  have := run_make (P := Try.prog) W 51 3 i0 (.int .i64 0) Try.underlying51 hi hz0 .i64 .i64 (l.length : Int) (l.length : Int) (by omega) (by omega) (by rw [hz2]; omega) (by omega)
  rw [hz1, Int.toNat_natCast, Nat.mul_one] at this
  exact this
 go_enter Try.func25, Try.ntmps25
 go_wp2_with (go_at_call 45; have hz := zero_flow (n := n) (s := s) (t := t) HC.out; have hbk := made_blk (w.alloc (.cells #[.int .i64 n, .bool b, .slice A l.length c] 28)) l.length; rw [alloc_size] at hbk; have HZ := zh hz; have HBK := zh hbk; clear hz hbk hmk; refine (refill_at n s t b A c l (w.heap.size + 1) (List.replicate l.length 0) l.length List.length_replicate _ HN.out HZ.out.1 hs ht HST.out HLC.out HZ.out.2 HBK.out ?s1).mono ?_; (case s1 => exact Kd.C_kept_came heapArc HR.out (by repeat (first | (with_reducible exact Below.refl _ _) | apply below_alloc)) (fun k hk => by omega)); rintro e w1 ⟨rfl, f2, S, h1, h2, h3, h4, h5, h6⟩; have H1 := zh h1; have H2 := zh h2; have H3 := zh h3; have H5 := zh h5; have H6 := zh h6; clear h1 h2 h3 h4 h5 h6)
 go_ret
 refine ⟨w.heap.size + 1, f2, S, rfl, by omega, H1.out, H2.out, H3.out, ?_⟩
 refine below_kept (W := ((w.alloc (.cells #[.int .i64 n, .bool b, .slice A l.length c] 28)).alloc (.cells (madeCells #[.int .i64 0] l.length) 3))) (below_alloc (below_alloc (Below.refl _ _) _) _) H5.out H6.out (fun k hk => by omega) (by simp; omega)
theorem reached_f {n : Nat} (d : List Int) (hd : d.length = n) (hn : n ≤ 10000) : ∃ k, mincut_reached.f k d = some (d.map fun x => decide (0 ≤ x)) := by
 have go : ∀ (m i : Nat) (acc : List Bool), i + m = n → acc.length = n → ∃ k, mincut_reached.l0 k acc d (d.length : Int) (i : Int) = some (acc.take i ++ (d.drop i).map fun x => decide (0 ≤ x)) := by
  intro m
  induction m with
  |zero =>
   intro i acc hi ha
   refine ⟨1, ?_⟩
   rw [mincut_reached.l0, if_neg (by omega), List.take_of_length_le (by omega), List.drop_of_length_le (by omega)]
   simp
  |succ m ih =>
   intro i acc hi ha
   obtain ⟨k, hk⟩ := ih (i + 1) (acc.set i (decide (rd d (i : Int) ≥ 0))) (by omega) (by rw [List.length_set]; exact ha)
   refine ⟨k + 1, ?_⟩
   rw [mincut_reached.l0, if_pos (by omega), if_pos (by omega), if_pos (by omega), if_pos (by omega), Int.toNat_natCast, w1n i (by omega), hk]
   congr 1
   have e1 : rd d (i : Int) = d[i]'(by omega) := by unfold rd; rw [Int.toNat_natCast, List.getD_eq_getElem?_getD, List.getElem?_eq_getElem (show i < d.length by omega)]; rfl
   rw [List.drop_eq_getElem_cons (show i < d.length by omega), List.map_cons, List.take_add_one, List.take_set_of_le (Nat.le_refl _), List.getElem?_set_self (by omega), e1]
   simp
 obtain ⟨k, hk⟩ := go n 0 (List.replicate d.length false) (by omega) (by rw [List.length_replicate, hd])
 refine ⟨k, ?_⟩
 unfold mincut_reached.f
 rw [if_pos (by omega), if_pos (by omega), Int.toNat_natCast]
 exact hk
set_option maxHeartbeats 4000000 in
set_option maxRecDepth 100000 in
theorem behind_walk (n s : Nat) (b : Bool) (A : Option Addr) (c : Nat) (l : List Arc) (Af : Option Addr) (cf : Nat) (f : List Int) (w : World) (hn : NetOk n l) (hf : FlowOk l f) (hs : s < n)
  (hlc : l.length ≤ c) (hr : Kd.C k48 w A l.length l) (hF : Kd.C (Kd.int .i64) w Af f.length f) (hfc : f.length ≤ cf) :
  Calls Try.prog 20 #[.agg #[.int .i64 n, .bool b, .slice A l.length c], .slice Af f.length cf, .int .i64 s] w fun e w' => ∃ (v : Value) (d : List Int) (rows : List (List Stp)), e = .returned v ∧ Kd.R Kd.bool 4 w' w.heap.size (fun _ => True) v (d.map fun x => decide (0 ≤ x)) ∧ d.length = n ∧ RowsOk n l rows ∧ Bf n s (Lk l f rows) (dOf d) ∧ Below w.heap.size w w' := by
 have HN := zh hn
 have HF := zh hf
 have HLC := zh hlc
 have HR := zh hr
 have HFR := zh hF
 have HFC := zh hfc
 have HSN := zh hs
 clear hn hf hlc hr hF hfc hs
 have hu := Try.underlying28
 have hu2 := Try.underlying87
 go_enter Try.func20, Try.ntmps20
 go_wp2_with (first
  |(go_at_call 33; refine (at_net n b A c l Af f.length cf _ HN.out ?s1 HLC.out).mono ?_; (case s1 => exact Kd.C_below HR.out (below_alloc (Below.refl _ _) _)); rintro e w1 ⟨g, rows, rfl, hS, hR, hb⟩; have HS := zh hS; have HRW := zh hR; have HB1 : Hid (Below w.heap.size w w1) := zh (below_step (below_alloc (Below.refl _ _) _) hb); clear hS hR hb)
  |(go_at_call 34; refine (far_walk n s b A c l Af cf f g _ rows _ HN.out HF.out HRW.out HSN.out ?s1 HLC.out ?s2 HFC.out HS.out).mono ?_; (case s1 => exact Kd.C_below HR.out HB1.out); (case s2 => exact Kd.C_below HFR.out HB1.out); rintro e w2 ⟨gd, d, rfl, h1, h2, h3, h4, h5⟩; have H2 := zh h2; have H3 := zh h3; have H4 := zh h4; have HB2 : Hid (Below w.heap.size w w2) := zh (below_step HB1.out h5); clear h1 h2 h3 h4 h5)
  |(go_at_call 32; obtain ⟨k, hk⟩ := reached_f d H3.out HN.out.n1; refine (reached_at k _ n d n H3.out _ _ ?s1 (by rw [H3.out]; exact Nat.le_refl _) hk).mono ?_; (case s1 => exact H2.out.reads (by rw [H3.out]; have := HN.out.n1; omega)); rintro e w3 ⟨v, rfl, h1, h2⟩; have H5 := zh h1; have HB3 : Hid (Below w.heap.size w w3) := zh (below_step HB2.out h2); have HSZ := zh HB2.out.size; clear h1 h2))
 go_ret
 exact ⟨_, d, rows, rfl, Kd.R_lower H5.out HSZ.out, H3.out, HRW.out, H4.out, HB3.out⟩
theorem slotLaid : laidOutB Try.prog = true := by kernel_rfl
theorem slotRow : (44 : TypeId) < Try.prog.types.size := of_decide_eq_true (by kernel_rfl)
theorem slotWide : (match Try.prog.underlying 44 with | some (.array _ _) | some (.struct _) => true | _ => false) = true := by rw [Try.underlying44]
theorem slotKeyType : Try.prog.keyTypeAt 2 44 = true := by kernel_rfl
set_option maxRecDepth 100000 in
theorem slotLaw : Maps.Keyed Try.prog 44 := Maps.Keyed.of_law (deep_law_laid slotLaid (m := 2) (by omega) slotRow slotKeyType slotWide)
theorem intLaw : Maps.Keyed Try.prog 3 := Maps.int_keyed Try.underlying3
def slotKey (a b : Int) : Lit := .string (keyBytes [.int .i64 a, .int .i64 b])
theorem slotKeyOf (a b : Int) (ha : (Lit.int .i64 a).wf = true) (hb : (Lit.int .i64 b).wf = true) : keyOf Try.prog 44 (.agg #[.int .i64 a, .int .i64 b]) = some (slotKey a b) := by
 have h1 : Try.prog.keyType 44 = true := by kernel_rfl
 have h2 : (Value.agg #[.int .i64 a, .int .i64 b]).formed Try.prog 44 = true := by
  simp [Value.formed, Try.underlying44, show Try.prog.cellsOf 44 = 2 by kernel_rfl]
 unfold keyOf
 rw [Try.underlying44]
 simp only [h1, h2, Bool.and_self, if_true, Value.cells]
 obtain ⟨m, hm⟩ : ∃ m, Try.prog.types.size = m + 1 := Nat.exists_eq_succ_of_ne_zero (Nat.ne_of_gt (Nat.lt_of_le_of_lt (Nat.zero_le _) slotRow))
 rw [hm]
 have e1 : ∀ x : Int, (Lit.int .i64 x).wf = true → Try.prog.keyLits (m + 1) 3 [.int .i64 x] = some [.int .i64 x] := fun x hx => by
  simp [Program.keyLits, Try.underlying3, hx]
 have e2 : Try.prog.keyLits (m + 1 + 1) 44 [.int .i64 a, .int .i64 b] = some [.int .i64 a, .int .i64 b] := by
  unfold Program.keyLits
  simp [Try.underlying44, show Try.prog.cellsOf 44 = 2 by kernel_rfl, show Try.prog.cellsOf 3 = 1 by kernel_rfl, e1 a ha, e1 b hb]
 have e3 : (#[Value.int .i64 a, Value.int .i64 b].flatMap Value.cells).toList = [.int .i64 a, .int .i64 b] := by simp [Value.cells]
 simp [e2, slotKey]
abbrev Wf (x : Int) : Prop := (Lit.int .i64 x).wf = true
theorem slotKey_inj {a b c d : Int} (ha : Wf a) (hb : Wf b) (hc : Wf c) (hd : Wf d) (e : slotKey a b = slotKey c d) : a = c ∧ b = d := by
 have h1 := slotKeyOf a b ha hb
 rw [e] at h1
 have h2 := slotLaw.inj h1 (slotKeyOf c d hc hd)
 injection h2 with h2
 injection h2 with h2
 injection h2 with h3 h4
 injection h3 with _ h3
 injection h4 with h4 _
 injection h4 with _ h4
 exact ⟨h3, h4⟩
theorem small_wf {x : Int} (h0 : 0 ≤ x) (h1 : x ≤ 1000000000) : (Lit.int .i64 x).wf = true := WalkArith.wf_i64 (by omega)
abbrev kArc := k48
theorem infoArc : (Try.prog.info? 48).map (fun i => (i.zero, i.size, i.bytes)) = some (some (.agg #[.int .i64 0, .int .i64 0, .int .i64 0, .int .i64 0]), 4, 32) := by kernel_rfl
structure MB where
 m : Nat
 w : Nat
 f : Nat
 l : Nat
def gridCells (N : Int) (v : Value) (B : MB) (n : Int) : Array Value := #[.int .i64 N, .bool false, v, .map (some B.m), .map (some B.w), .map (some B.f), .map (some B.l), .int .i64 n]
abbrev MapAs (W : World) (k : TypeId) (b : Nat) (c : Nat) (D : DataW Unit) : Prop := W.ownsMap Try.prog k (plainElem Try.prog 3) b c D
theorem mapAs_eq {W W1 : World} {k : TypeId} {b c : Nat} {D : DataW Unit} (h : MapAs W k b c D) (e : W1.heap[b]? = W.heap[b]?) : MapAs W1 k b c D := by
 obtain ⟨es, clock, hb, F, hs, hD⟩ := h
 exact ⟨es, clock, e.trans hb, F, hs, hD⟩
theorem mapAs_ne {W : World} {k : TypeId} {b c : Nat} {D : DataW Unit} (h : MapAs W k b c D) {g : Nat} {cs : Array Value} {t : TypeId} {z : Nat × Nat} (hg : W.heap[g]? = some (.cells cs t z)) : b ≠ g := by
 obtain ⟨es, clock, hb, _⟩ := h
 rintro rfl
 rw [hb] at hg
 cases hg
structure MD where
 km : Nat
 kw : Nat
 kf : Nat
 kl : Nat
 m : DataW Unit
 w : DataW Unit
 f : DataW Unit
 l : DataW Unit
structure GrI (w0 : World) (gg : Nat) (N n : Int) (v : Value) (arcs : List Arc) (B : MB) (D : MD) (W : World) : Prop where
 bx : W.heap[gg]? = some (.cells (gridCells N v B n) 67 (0, 0))
 ar : Kd.R kArc 48 W w0.heap.size (fun _ => True) v arcs
 mm : MapAs W 44 B.m D.km D.m
 mw : MapAs W 44 B.w D.kw D.w
 mf : MapAs W 3 B.f D.kf D.f
 ml : MapAs W 3 B.l D.kl D.l
 low : Below w0.heap.size w0 W
 gl : w0.heap.size ≤ gg
 b1 : w0.heap.size ≤ B.m
 b2 : w0.heap.size ≤ B.w
 b3 : w0.heap.size ≤ B.f
 b4 : w0.heap.size ≤ B.l
 n1 : B.m ≠ B.w
 n2 : B.m ≠ B.f
 n3 : B.m ≠ B.l
 n4 : B.w ≠ B.f
 n5 : B.w ≠ B.l
 n6 : B.f ≠ B.l
section
variable {w0 : World} {gg : Nat} {N n : Int} {v : Value} {arcs : List Arc} {B : MB} {D : MD} {W W1 : World}
theorem GrI.below (h : GrI w0 gg N n v arcs B D W) (hb : Below W.heap.size W W1) : GrI w0 gg N n v arcs B D W1 :=
 ⟨blk_below h.bx hb, Kd.R_below h.ar hb, mapAs_eq h.mm (hb.block _ h.mm.lt), mapAs_eq h.mw (hb.block _ h.mw.lt), mapAs_eq h.mf (hb.block _ h.mf.lt), mapAs_eq h.ml (hb.block _ h.ml.lt), below_step h.low hb, h.gl, h.b1, h.b2, h.b3, h.b4, h.n1, h.n2, h.n3, h.n4, h.n5, h.n6⟩
theorem GrI.cells (h : GrI w0 gg N n v arcs B D W) : W.cell? ⟨gg, 0, none⟩ = some (.int .i64 N) ∧ W.cell? ⟨gg, 1, none⟩ = some (.bool false) ∧ W.cell? ⟨gg, 2, none⟩ = some v ∧ W.cell? ⟨gg, 3, none⟩ = some (.map (some B.m)) ∧ W.cell? ⟨gg, 4, none⟩ = some (.map (some B.w)) ∧ W.cell? ⟨gg, 5, none⟩ = some (.map (some B.f)) ∧ W.cell? ⟨gg, 6, none⟩ = some (.map (some B.l)) ∧ W.cell? ⟨gg, 7, none⟩ = some (.int .i64 n) :=
 ⟨(blk_cell h.bx 0).trans rfl, (blk_cell h.bx 1).trans rfl, (blk_cell h.bx 2).trans rfl, (blk_cell h.bx 3).trans rfl, (blk_cell h.bx 4).trans rfl, (blk_cell h.bx 5).trans rfl, (blk_cell h.bx 6).trans rfl, (blk_cell h.bx 7).trans rfl⟩
theorem GrI.set (h : GrI w0 gg N n v arcs B D W) {g t : Nat} {cs : Array Value} (hb : W.heap[g]? = some (.cells cs t (0, 0))) (h1 : t ≠ 67) (h2 : t ≠ 48) (hg : w0.heap.size ≤ g) (i : Nat) (u : Value) : GrI w0 gg N n v arcs B D (W.setCell ⟨g, i, none⟩ u) := by
 have hne : ∀ {b : Nat}, b ≠ g → (W.setCell ⟨g, i, none⟩ u).heap[b]? = W.heap[b]? := fun {b} e => Below.heap_setCell W ⟨g, i, none⟩ u b e
 exact ⟨(hne (blk_ne h.bx hb h1.symm)).trans h.bx, Kd.R_set h.ar hb (by
  intro q hq
  have : q = 48 := by simpa [kArc, k48, Kd.iso, Kd.pair, Kd.int, Kd.scalar] using hq
  rw [this]
  exact h2.symm) i u, mapAs_eq h.mm (hne (mapAs_ne h.mm hb)), mapAs_eq h.mw (hne (mapAs_ne h.mw hb)), mapAs_eq h.mf (hne (mapAs_ne h.mf hb)), mapAs_eq h.ml (hne (mapAs_ne h.ml hb)), below_set h.low hg, h.gl, h.b1, h.b2, h.b3, h.b4, h.n1, h.n2, h.n3, h.n4, h.n5, h.n6⟩
theorem GrI.add (h : GrI w0 gg N n v arcs B D W) {W2 : World} {v2 : Value} {arcs2 : List Arc} (hb : Below W.heap.size W W1) (hg : W1.grownBy W2 v.ownBlock) (hR : Kd.R kArc 48 W2 w0.heap.size (fun _ => True) v2 arcs2) (hl : Below w0.heap.size w0 W2) :
  GrI w0 gg N n v2 arcs2 B D (W2.setCell ⟨gg, 2, none⟩ v2) ∧ Kept W (W2.setCell ⟨gg, 2, none⟩ v2) (fun k => k = gg ∨ some k = v.ownBlock) ∧ Stay W (W2.setCell ⟨gg, 2, none⟩ v2) := by
 have h1 := h.below hb
 have hrow := Kd.R_typed h1.ar
 have hx : W2.heap[gg]? = _ := blk_grown h1.bx hg (Kd.R_ne h1.ar h1.bx (by decide))
 have hm : ∀ {k : TypeId} {b c : Nat} {Dx : DataW Unit}, MapAs W1 k b c Dx → MapAs (W2.setCell ⟨gg, 2, none⟩ v2) k b c Dx := fun {k b c Dx} hx9 => by
  refine mapAs_eq hx9 ?_
  rw [Below.heap_setCell W2 ⟨gg, 2, none⟩ v2 b (mapAs_ne hx9 h1.bx)]
  refine hg.block b hx9.lt (fun e => ?_)
  obtain ⟨cs, hcs⟩ := hrow b e.symm
  exact mapAs_ne hx9 hcs rfl
 have hset : (W2.setCell ⟨gg, 2, none⟩ v2).heap[gg]? = some (.cells (gridCells N v2 B n) 67 (0, 0)) := blk_put hx 2 v2 rfl
 refine ⟨⟨hset, Kd.R_set hR hx (by decide) 2 v2, hm h1.mm, hm h1.mw, hm h1.mf, hm h1.ml, below_set hl h.gl, h.gl, h.b1, h.b2, h.b3, h.b4, h.n1, h.n2, h.n3, h.n4, h.n5, h.n6⟩, ?_, ?_⟩
 ·exact Kept.setCell (Kept.of_grown hg (Kept.of_below hb _) (fun k e => .inl (.inr e.symm))) (.inl (.inl rfl)) v2
 ·exact (Stay.of_below hb).then_ ⟨hg.os, hg.tape, hg.output⟩
end
set_option maxHeartbeats 1000000 in
theorem ends_walk (w0 : World) (gg : Nat) (N N1 M : Nat) (h1 : N1 = N + 1) (h2 : M = N + 2) (n : Int) (v : Value) (arcs : List Arc) (B : MB) (D : MD) (w : World) (h : GrI w0 gg M n v arcs B D w) (hN : M ≤ 1000000) :
  Calls Try.prog 19 #[.pointer (some ⟨gg, 0, none⟩)] w fun e w' => e = .returned (.tuple #[.int .i64 N, .int .i64 N1]) ∧ Below w.heap.size w w' := by
 have c0 := h.cells.1
 have HE1 := zh (show (M : Int) - 2 = (N : Int) by omega)
 have HE2 := zh (show (M : Int) - 1 = (N1 : Int) by omega)
 clear h h1 h2
 go_enter Try.func19, Try.ntmps19
 go_wp2
 go_quiet (fail)
 go_wp2
 go_ret2
 refine ⟨?_, by first | exact pw_below_drewN (Below.refl _ _) _ | repeat (first | exact Below.refl _ _ | apply below_drew)⟩
 have e3 : Ending.returned (.tuple #[.int .i64 ((M : Int) - 2), .int .i64 ((M : Int) - 1)]) = Ending.returned (.tuple #[.int .i64 (N : Int), .int .i64 (N1 : Int)]) := by rw [HE1.out, HE2.out]
 exact e3
theorem mul_bd {a n A N : Int} (h0 : 0 ≤ a) (h1 : a ≤ A) (h2 : 0 ≤ n) (h3 : n ≤ N) : 0 ≤ a * n ∧ a * n ≤ A * N :=
 ⟨Int.mul_nonneg h0 h2, Int.mul_le_mul h1 h3 h2 (Int.le_trans h0 h1)⟩
set_option maxHeartbeats 1000000 in
theorem gat_walk (w0 : World) (gg : Nat) (N : Int) (n : Int) (v : Value) (arcs : List Arc) (B : MB) (D : MD) (x a : Int) (w : World) (h : GrI w0 gg N n v arcs B D w) (hn : 0 ≤ n ∧ n ≤ 1000) (hx : 0 ≤ x ∧ x ≤ 1000) (ha : 0 ≤ a ∧ a ≤ 10000) :
  Calls Try.prog 31 #[.pointer (some ⟨gg, 0, none⟩), .int .i64 x, .int .i64 a] w fun e w' => e = .returned (.int .i64 (a * n + x)) ∧ w' = w := by
 have c0 := h.cells.2.2.2.2.2.2.2
 clear h
 have hm := mul_bd ha.1 ha.2 hn.1 hn.2
 obtain ⟨m, hm2⟩ : ∃ m : Int, m = a * n := ⟨_, rfl⟩
 rw [← hm2] at hm
 have e1 : IntKind.i64.wrap (a * n) = m := by
  rw [← hm2]
  exact IntWalk.i64_in _ (by omega)
 have HM := zh hm2
 clear hm2
 go_enter Try.func31, Try.ntmps31
 go_wp2
 go_ret
 refine ⟨?_, rfl⟩
 have e3 : Ending.returned (.int .i64 (m + x)) = Ending.returned (.int .i64 (a * n + x)) := by rw [HM.out]
 exact e3
set_option maxHeartbeats 2000000 in
theorem add_walk (w0 : World) (gg : Nat) (N n : Int) (v : Value) (arcs : List Arc) (B : MB) (D : MD) (a b c : Int) (w : World) (h : GrI w0 gg N n v arcs B D w) (hl : arcs.length ≤ 100000) :
  Calls Try.prog 30 #[.pointer (some ⟨gg, 0, none⟩), .int .i64 a, .int .i64 b, .int .i64 c] w fun e w' => e = .returned (.int .i64 arcs.length) ∧ ∃ v2, GrI w0 gg N n v2 (arcs ++ [(⟨a, b, c, 0⟩ : Arc)]) B D w' ∧ Kept w w' (fun k => k = gg ∨ some k = v.ownBlock) ∧ Stay w w' := by
 obtain ⟨A, cp, rfl⟩ := Kd.R_slice h.ar
 have x2 := h.cells.2.2.1
 have HI := zh h
 have HL := zh hl
 have fz : w.frozen? ⟨gg, 2, none⟩ = false := blk_frozen h.bx 2
 clear h
 go_enter Try.func30, Try.ntmps30
 go_wp2_with ((with_reducible refine gate_dst (N := 20) rfl ?_); refine Kd.R_append kArc (w0 := w0) w0.heap.size rfl (.tmp 14) (.tmp 19) 26 48 (.agg #[.int .i64 0, .int .i64 0, .int .i64 0, .int .i64 0]) 32 rfl Try.underlying26 infoArc rfl (by decide) (by decide) (.slice A arcs.length cp) arcs ⟨a, b, c, 0⟩ [.int .i64 a, .int .i64 b, .int .i64 c, .int .i64 0] (fun _ => True) (fun _ => False) rfl rfl ?aP (fun _ hk => hk.elim) ?aF HI.out.ar HI.out.low HI.out.low.size (by have := HL.out; omega) ?_; (case aP => exact k48_mkM _ _ _ (⟨a, b, c, 0⟩ : Arc)); (case aF => exact fun _ _ => trivial); intro v1 w1 ho hb hg hat; obtain ⟨A1, c1, rfl⟩ := Kd.R_slice ho; have HA := zh (HI.out.add (Below.refl _ _) hg ho hb); have y2 : (w1.cell? ⟨gg, 2, none⟩) = some (.slice A arcs.length cp) := (blk_cell (blk_grown HI.out.bx hg (Kd.R_ne HI.out.ar HI.out.bx (by decide))) 2).trans rfl; have f2 : w1.frozen? ⟨gg, 2, none⟩ = false := blk_frozen (blk_grown HI.out.bx hg (Kd.R_ne HI.out.ar HI.out.bx (by decide))) 2; clear ho hb hg hat)
 go_ret
 have hA := HA.out
 rw [show (arcs ++ [(⟨a, b, c, 0⟩ : Arc)]).length = arcs.length + 1 by rw [List.length_append]; rfl] at hA
 exact ⟨rfl, _, hA.1, hA.2.1, hA.2.2⟩
structure BSt where
 arcs : List Arc
 mv : List (Int × Int × Int)
 wt : List (Int × Int × Int)
def bM (l : List Arc) (use : Arc → Bool) (n h : Int) (a : Nat) (s : BSt) : Nat → BSt
 |0 => s
 |j + 1 =>
  let s1 := bM l use n h a s j
  let x := arcAt l j
  if (a : Int) + x.f3 ≤ h ∧ use x = true then ⟨s1.arcs ++ [⟨(a : Int) * n + x.f0, ((a : Int) + x.f3) * n + x.f1, x.f2, 0⟩], s1.mv ++ [((j : Int), (a : Int), (s1.arcs.length : Int))], s1.wt⟩ else s1
def bW (keeps : Nat → Bool) (n h : Int) (a : Nat) (s : BSt) : Nat → BSt
 |0 => s
 |v + 1 =>
  let s1 := bW keeps n h a s v
  if (a : Int) < h ∧ keeps v = true then ⟨s1.arcs ++ [⟨(a : Int) * n + v, ((a : Int) + 1) * n + v, 1099511627776, 0⟩], s1.mv, s1.wt ++ [((v : Int), (a : Int), (s1.arcs.length : Int))]⟩ else s1
def bA (l : List Arc) (use : Arc → Bool) (keeps : Nat → Bool) (n h : Nat) : Nat → BSt
 |0 => ⟨[], [], []⟩
 |a + 1 => bW keeps n h a (bM l use n h a (bA l use keeps n h a) l.length) n
def BSt.le (s : BSt) (m : Nat) : Prop := s.arcs.length ≤ m ∧ s.mv.length ≤ m ∧ s.wt.length ≤ m
theorem bM_le (l : List Arc) (use : Arc → Bool) (n h : Int) (a : Nat) {s : BSt} {m : Nat} (hs : s.le m) : ∀ j, (bM l use n h a s j).le (m + j)
 |0 => hs
 |j + 1 => by
  obtain ⟨h1, h2, h3⟩ := bM_le l use n h a hs j
  unfold bM
  simp only
  split
  ·refine ⟨?_, ?_, ?_⟩
   ·rw [List.length_append]; simp; omega
   ·rw [List.length_append]; simp; omega
   ·exact Nat.le_trans h3 (Nat.le_succ _)
  ·exact ⟨by omega, by omega, by omega⟩
theorem bW_le (keeps : Nat → Bool) (n h : Int) (a : Nat) {s : BSt} {m : Nat} (hs : s.le m) : ∀ v, (bW keeps n h a s v).le (m + v)
 |0 => hs
 |v + 1 => by
  obtain ⟨h1, h2, h3⟩ := bW_le keeps n h a hs v
  unfold bW
  simp only
  split
  ·refine ⟨?_, ?_, ?_⟩
   ·rw [List.length_append]; simp; omega
   ·exact Nat.le_trans h2 (Nat.le_succ _)
   ·rw [List.length_append]; simp; omega
  ·exact ⟨by omega, by omega, by omega⟩
theorem bA_le (l : List Arc) (use : Arc → Bool) (keeps : Nat → Bool) (n h : Nat) : ∀ a, (bA l use keeps n h a).le (a * (l.length + n))
 |0 => ⟨Nat.zero_le _, Nat.zero_le _, Nat.zero_le _⟩
 |a + 1 => by
  have h1 := bW_le keeps n h a (bM_le l use n h a (bA_le l use keeps n h a) l.length) n
  unfold bA
  rw [Nat.succ_mul, ← Nat.add_assoc]
  exact h1
def putAll (L : List (Int × Int × Int)) : DataW Unit := L.foldl (fun D x => D.put (slotKey x.1 x.2.1) (.lit (.int .i64 x.2.2))) (.map [])
theorem putAll_snoc (L : List (Int × Int × Int)) (x : Int × Int × Int) : putAll (L ++ [x]) = (putAll L).put (slotKey x.1 x.2.1) (.lit (.int .i64 x.2.2)) := by
 unfold putAll
 rw [List.foldl_append]
 rfl
def BSt.md (s : BSt) : MD := ⟨s.mv.length, s.wt.length, 0, 0, putAll s.mv, putAll s.wt, .map [], .map []⟩
theorem md_pushm (s : BSt) (arcs : List Arc) (x : Int × Int × Int) : BSt.md ⟨arcs, s.mv ++ [x], s.wt⟩ = { s.md with km := s.md.km + 1, m := s.md.m.put (slotKey x.1 x.2.1) (.lit (.int .i64 x.2.2)) } := by
 unfold BSt.md
 simp [putAll_snoc]
theorem md_pushw (s : BSt) (arcs : List Arc) (x : Int × Int × Int) : BSt.md ⟨arcs, s.mv, s.wt ++ [x]⟩ = { s.md with kw := s.md.kw + 1, w := s.md.w.put (slotKey x.1 x.2.1) (.lit (.int .i64 x.2.2)) } := by
 unfold BSt.md
 simp [putAll_snoc]
section
variable {w0 : World} {gg : Nat} {N n : Int} {v : Value} {arcs : List Arc} {B : MB} {D : MD} {W W1 : World}
theorem GrI.putm (h : GrI w0 gg N n v arcs B D W) (hk : D.km ≤ 1000000) {x y i : Int} (hx : 0 ≤ x ∧ x ≤ 1000000) (hy : 0 ≤ y ∧ y ≤ 1000000) (hi : 0 ≤ i ∧ i ≤ 1000000) :
  ∃ W2, (Instr.mapUpdate 64 (.map (some B.m)) (.agg #[.int .i64 x, .int .i64 y]) (.int .i64 i)).run Try.prog W = .ok () W2 ∧ GrI w0 gg N n v arcs B { D with km := D.km + 1, m := D.m.put (slotKey x y) (.lit (.int .i64 i)) } W2 ∧ Kept W W2 (fun k => k = B.m) ∧ Stay W W2 := by
 obtain ⟨W2, h1, h2, h3⟩ := h.mm.update slotLaw Try.underlying64 (show D.km < maxLen by unfold maxLen; omega) (slotKeyOf x y (small_wf hx.1 (by omega)) (small_wf hy.1 (by omega))) (plainElem_int Try.underlying3 (small_wf hi.1 (by omega)))
 have hne : ∀ {g : Nat}, g ≠ B.m → g < W.heap.size → W2.heap[g]? = W.heap[g]? := fun {g} hg hlt => h3.block g hlt (fun e => hg (by injection e))
 have ho : ∀ k, (Value.ownBlock v) = some k → k ≠ B.m := fun k hk e => by
  obtain ⟨cs, hcs⟩ := Kd.R_typed h.ar k hk
  exact mapAs_ne h.mm hcs e.symm
 refine ⟨W2, h1, ⟨(hne (mapAs_ne h.mm h.bx).symm (blk_lt h.bx)).trans h.bx, ?_, h2, mapAs_eq h.mw (hne h.n1.symm h.mw.lt), mapAs_eq h.mf (hne h.n2.symm h.mf.lt), mapAs_eq h.ml (hne h.n3.symm h.ml.lt), ?_, h.gl, h.b1, h.b2, h.b3, h.b4, h.n1, h.n2, h.n3, h.n4, h.n5, h.n6⟩, ⟨h3.size, fun k hk hn => h3.block k hk (fun e => hn (by injection e))⟩, h3.os, h3.tape, h3.output⟩
 ·exact Kd.R_mono (Kd.R_step (Kd.R_tight rfl h.ar) (fun k hk hlt => hne (ho k hk.symm) hlt)) (fun _ _ => trivial)
 ·have h9 := h.b1
  exact ⟨h3.os.trans h.low.os, h3.tape.trans h.low.tape, h3.output.trans h.low.output, Nat.le_trans h.low.size h3.size, fun k hlt => (hne (by omega) (by have := h.low.size; omega)).trans (h.low.block k hlt)⟩
theorem GrI.putw (h : GrI w0 gg N n v arcs B D W) (hk : D.kw ≤ 1000000) {x y i : Int} (hx : 0 ≤ x ∧ x ≤ 1000000) (hy : 0 ≤ y ∧ y ≤ 1000000) (hi : 0 ≤ i ∧ i ≤ 1000000) :
  ∃ W2, (Instr.mapUpdate 64 (.map (some B.w)) (.agg #[.int .i64 x, .int .i64 y]) (.int .i64 i)).run Try.prog W = .ok () W2 ∧ GrI w0 gg N n v arcs B { D with kw := D.kw + 1, w := D.w.put (slotKey x y) (.lit (.int .i64 i)) } W2 ∧ Kept W W2 (fun k => k = B.w) ∧ Stay W W2 := by
 obtain ⟨W2, h1, h2, h3⟩ := h.mw.update slotLaw Try.underlying64 (show D.kw < maxLen by unfold maxLen; omega) (slotKeyOf x y (small_wf hx.1 (by omega)) (small_wf hy.1 (by omega))) (plainElem_int Try.underlying3 (small_wf hi.1 (by omega)))
 have hne : ∀ {g : Nat}, g ≠ B.w → g < W.heap.size → W2.heap[g]? = W.heap[g]? := fun {g} hg hlt => h3.block g hlt (fun e => hg (by injection e))
 have ho : ∀ k, (Value.ownBlock v) = some k → k ≠ B.w := fun k hk e => by
  obtain ⟨cs, hcs⟩ := Kd.R_typed h.ar k hk
  exact mapAs_ne h.mw hcs e.symm
 refine ⟨W2, h1, ⟨(hne (mapAs_ne h.mw h.bx).symm (blk_lt h.bx)).trans h.bx, ?_, mapAs_eq h.mm (hne h.n1 h.mm.lt), h2, mapAs_eq h.mf (hne h.n4.symm h.mf.lt), mapAs_eq h.ml (hne h.n5.symm h.ml.lt), ?_, h.gl, h.b1, h.b2, h.b3, h.b4, h.n1, h.n2, h.n3, h.n4, h.n5, h.n6⟩, ⟨h3.size, fun k hk hn => h3.block k hk (fun e => hn (by injection e))⟩, h3.os, h3.tape, h3.output⟩
 ·exact Kd.R_mono (Kd.R_step (Kd.R_tight rfl h.ar) (fun k hk hlt => hne (ho k hk.symm) hlt)) (fun _ _ => trivial)
 ·have h9 := h.b2
  exact ⟨h3.os.trans h.low.os, h3.tape.trans h.low.tape, h3.output.trans h.low.output, Nat.le_trans h.low.size h3.size, fun k hlt => (hne (by omega) (by have := h.low.size; omega)).trans (h.low.block k hlt)⟩
end
theorem mem_arcAt {l : List Arc} {j : Nat} (h : j < l.length) : arcAt l j ∈ l := by
 unfold arcAt rd_T48
 rw [Int.toNat_natCast, List.getD_eq_getElem?_getD, List.getElem?_eq_getElem h]
 exact List.getElem_mem h
theorem begin_start (w : World) (cs : Array Value) (t : TypeId) (N n : Int) (W0 : World) (hW : W0 = (((((w.alloc (.cells cs t)).alloc (.map #[] 0)).alloc (.map #[] 0)).alloc (.map #[] 0)).alloc (.map #[] 0)).alloc (.cells #[.int .i64 N, .bool false, .slice none 0 0, .map (some (w.heap.size + 1)), .map (some (w.heap.size + 1 + 1)), .map (some (w.heap.size + 1 + 1 + 1)), .map (some (w.heap.size + 1 + 1 + 1 + 1)), .int .i64 n] 67)) :
  W0.heap[w.heap.size]? = some (.cells cs t (0, 0)) ∧ GrI w (w.heap.size + 1 + 1 + 1 + 1 + 1) N n (.slice none 0 0) [] ⟨w.heap.size + 1, w.heap.size + 1 + 1, w.heap.size + 1 + 1 + 1, w.heap.size + 1 + 1 + 1 + 1⟩ (BSt.md ⟨[], [], []⟩) W0 := by
 have made : ∀ (W : World) (k : TypeId) (b : Nat), b = W.heap.size → MapAs (W.alloc (.map #[] 0)) k b 0 (.map []) := fun W k b e => by
  rw [e]
  exact World.ownsMap_made _ _ _ _
 have later : ∀ {W W1 : World} {k : TypeId} {b : Nat}, MapAs W k b 0 (.map []) → Below W.heap.size W W1 → MapAs W1 k b 0 (.map []) := fun h hb => mapAs_eq h (hb.block _ h.lt)
 subst hW
 refine ⟨?_, ⟨alloc_at (by simp only [alloc_size]), Kd.R_nil _ _ _ _ _, ?_, ?_, ?_, ?_, ?_, by omega, Nat.le_succ _, by show w.heap.size ≤ w.heap.size + 1 + 1; omega, by show w.heap.size ≤ w.heap.size + 1 + 1 + 1; omega, by show w.heap.size ≤ w.heap.size + 1 + 1 + 1 + 1; omega, ?_, ?_, ?_, ?_, ?_, ?_⟩⟩
 ·exact blk_alloc (blk_alloc (blk_alloc (blk_alloc (blk_alloc (heap_alloc_new _ _) _) _) _) _) _
 ·exact later (made (w.alloc (.cells cs t)) _ _ (by simp only [alloc_size])) (by repeat (first | (with_reducible exact Below.refl _ _) | apply below_alloc))
 ·exact later (made ((w.alloc (.cells cs t)).alloc (.map #[] 0)) _ _ (by simp only [alloc_size])) (by repeat (first | (with_reducible exact Below.refl _ _) | apply below_alloc))
 ·exact later (made (((w.alloc (.cells cs t)).alloc (.map #[] 0)).alloc (.map #[] 0)) _ _ (by simp only [alloc_size])) (by repeat (first | (with_reducible exact Below.refl _ _) | apply below_alloc))
 ·exact later (made ((((w.alloc (.cells cs t)).alloc (.map #[] 0)).alloc (.map #[] 0)).alloc (.map #[] 0)) _ _ (by simp only [alloc_size])) (by repeat (first | (with_reducible exact Below.refl _ _) | apply below_alloc))
 ·repeat (first | (with_reducible exact Below.refl _ _) | apply below_alloc)
 all_goals
  simp only
  omega
structure NetIn (n h : Nat) (l : List Arc) : Prop where
 n0 : 0 < n
 n1 : n ≤ 1000
 h1 : h ≤ 4000
 hn : (h + 1) * n ≤ 4000
 hl : (h + 1) * l.length ≤ 10000
 ends : ∀ i : Nat, i < l.length → (0 ≤ (arcAt l i).f0 ∧ (arcAt l i).f0 < n) ∧ (0 ≤ (arcAt l i).f1 ∧ (arcAt l i).f1 < n)
 time : ∀ i : Nat, i < l.length → 0 ≤ (arcAt l i).f3 ∧ (arcAt l i).f3 ≤ 1048576
theorem NetIn.ll {n h : Nat} {l : List Arc} (k : NetIn n h l) : l.length ≤ 10000 := by
 have h1 := k.hl
 have : 1 * l.length ≤ (h + 1) * l.length := Nat.mul_le_mul (by omega) (Nat.le_refl _)
 omega
theorem NetIn.room {n h a : Nat} {l : List Arc} (k : NetIn n h l) (ha : a ≤ h) : a * (l.length + n) + l.length + n ≤ 14000 := by
 have h1 := k.hl
 have h2 := k.hn
 have h3 : (a + 1) * (l.length + n) ≤ (h + 1) * (l.length + n) := Nat.mul_le_mul (by omega) (Nat.le_refl _)
 rw [Nat.mul_add (h + 1)] at h3
 rw [Nat.succ_mul] at h3
 omega
end Go.Proofs.Ytdfagllncopmjaa.H
end
