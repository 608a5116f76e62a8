/- Texts of this proof, joined; what the statement doesn't need is left out. -/
import Derived.Test.YtcgdloldkcmhnaaV5
section
namespace Go.Proofs.Ytcgdloldkcmhnaa.H
open Go Go.RowKit Go.Proofs.Ytcgdloldkcmhnaa.PrintC Go.Proofs.YtcgdloldkcmhnaaW.PrintWords Go.Proofs.YtcgdloldkcmhnaaW.PrintLast Go.Proofs.YtcgdloldkcmhnaaW.PrintMore Go.Proofs.Ytcgdloldkcmhnaa.Flow
set_option linter.unusedVariables false
set_option linter.unusedSimpArgs false
def PushedAt (g : List Int) (w : World) (e : Ending) (w' : World) : Prop := ∃ (A1 : Option Addr) (c1 : Nat), e = .returned (.slice A1 g.length c1) ∧ Kd.R (Kd.int .i64) 3 w' w.heap.size (fun _ => True) (.slice A1 g.length c1) g ∧ Below w.heap.size w w'
theorem int_elem {W : World} {base g n c : Nat} {ok : Nat → Prop} {f : List Int} (h : Kd.R (Kd.int .i64) 3 W base ok (.slice (some ⟨g, 0, none⟩) n c) f) (a : Int) (h0 : 0 ≤ a) (h1 : a < n) :
    W.cell? ⟨g, a.toNat, none⟩ = some (.int .i64 (rd f a)) ∧ W.frozen? ⟨g, a.toNat, none⟩ = false ∧ ∀ v : Int, Kd.R (Kd.int .i64) 3 (W.setCell ⟨g, a.toNat, none⟩ (.int .i64 v)) base ok (.slice (some ⟨g, 0, none⟩) n c) (f.set a.toNat v) := by
  obtain ⟨ce, hcl, hM, hcc, hfr⟩ := Kd.R_elem h 0 a h0 h1
  obtain rfl : ce = [.int .i64 (f.getD a.toNat 0)] := hM
  have h2 := hcc 0 _ rfl
  have h3 := hfr 0
  simp only [show (Kd.int .i64).sz = 1 from rfl, Nat.mul_one, Nat.add_zero] at h2 h3
  refine ⟨h2, h3, fun v => ?_⟩
  have h4 := (Kd.R_seg h a h0 h1 (seg := [.int .i64 v]) (j := 0) hcl hcc (show 1 ≤ 1 from by decide) (x' := v) rfl (okp := fun _ => False) (fun _ hk => hk.elim)).1
  simp only [World.setCells, show (Kd.int .i64).sz = 1 from rfl, Nat.mul_one, Nat.add_zero] at h4
  exact h4
set_option maxHeartbeats 4000000 in
set_option maxRecDepth 100000 in
theorem pushed_walk (l : List Arc) (Af : Option Addr) (cf : Nat) (f : List Int) (Aw : Option Addr) (cw : Nat) (way : List Stp) (k : Int) (w : World) (hF : Kd.C (Kd.int .i64) w Af f.length f) (hW : Kd.C kStep w Aw way.length way) (hin : ∀ x, x ∈ way → 0 ≤ x.f0 ∧ x.f0 < (f.length : Int)) (hwl : way.length ≤ 1000000) (hfl : f.length ≤ 1000000) (hk : 0 ≤ k ∧ k ≤ 1099511627776)
    (hok : ∀ j, j ≤ way.length → ∀ a : Int, 0 ≤ a → a < f.length → 0 ≤ rd (goL f (way.take j) k) a ∧ rd (goL f (way.take j) k) a ≤ 1099511627776) :
    Calls Try.prog 73 #[.slice Af f.length cf, .slice Aw way.length cw, .int .i64 k] w (PushedAt (goL f way k) w) := by
  have hu2 := Try.underlying158
  have HF := Lib.hid hF
  have HWA := Lib.hid hW
  have HIN := Lib.hid hin
  have HOK := Lib.hid hok
  clear hF hW hin hok
  go_enter Try.func73, Try.ntmps73
  go_wp2_with ((with_reducible refine gate_builtin (b := .append) (xs := #[.tmp 9, .tmp 10]) rfl ?_); (try (refine gate_guard (by rfl) ?_; dsimp only)); at_builtin; go_loud (refine Kd.R_append_rows (Kd.int .i64) (w0 := w) w.heap.size rfl (.tmp 9) (.tmp 10) 69 3 (.int .i64 0) 8 rfl Try.underlying69 infoInt rfl (by decide) (by decide) (.slice none 0 0) ([] : List Int) f _ _ _ (fun _ => True) (fun _ => False) rfl rfl ?aO ?aR (fun _ _ h => h) (fun _ h => h.elim) ?aF ?aB ?aS ?aL ?_); (case aR => exact HF.out); (case aB => exact Below.refl _ _); (case aF => exact fun _ _ => trivial); (case aO => exact Kd.R_nil _ _ _ _ _); (case aS => exact Nat.le_refl _); (case aL => show (0 + f.length) * 8 ≤ 140737488355328; omega); go_loud ((intro v1 w1 ho hb hg hat; rw [List.nil_append] at ho; obtain ⟨A1, c1, rfl⟩ := Kd.R_slice ho; have HO := Lib.hid (And.intro ho hb); clear ho hb hg hat)))
  go_loopg [8] way.length (fun k' iv W => ∃ i : Nat, i ≤ way.length ∧ iv = .int .i64 i ∧ k' = way.length - i ∧ Hid (Kd.R (Kd.int .i64) 3 W w.heap.size (fun _ => True) (.slice A1 f.length c1) (goL f (way.take i) k) ∧ Below w.heap.size w W))
  case atStart => exact ⟨0, Nat.zero_le _, rfl, rfl, HO⟩
  case round =>
    obtain ⟨i, hi, rfl, rfl, HL⟩ := hrel
    clear HO
    by_cases d1 : i < way.length
    · have i0 : (0 : Int) ≤ (i : Int) := by omega
      have i1 : (i : Int) < (way.length : Int) := by omega
      obtain ⟨ad, ea, y0, y1⟩ := at_T158 (Kd.C_below HWA.out HL.out.2) (i : Int) i0 i1
      subst ea
      rw [Int.toNat_natCast] at y0 y1
      obtain ⟨x, hx0⟩ : ∃ x, x = stAt way i := ⟨_, rfl⟩
      have hx1 : (rd_T158 way (i : Int)) = x := by rw [hx0]; unfold rd_T158 stAt; rw [Int.toNat_natCast]; rfl
      rw [hx1] at y0 y1
      have hxm : x ∈ way := by rw [hx0]; exact getD_mem d1 _
      have hx := HIN.out x hxm
      obtain ⟨g, hg⟩ : ∃ g, g = goL f (way.take i) k := ⟨_, rfl⟩
      have hgl : g.length = f.length := by rw [hg]; exact goL_len k _ f
      have HGS0 : Hid (goL f (way.take (i + 1)) k = goF g x k) := Lib.hid (by rw [take_pushS d1, goL_snoc, ← hg, hx0]; rfl)
      have hfb := HOK.out i hi x.f0 hx.1 hx.2
      have hfb2 := HOK.out (i + 1) d1 x.f0 hx.1 hx.2
      rw [HGS0.out] at hfb2
      have HL2 := HL
      rw [← hg] at HL hfb
      clear hx0 hx1 hxm HL2
      have HGL := Lib.hid hgl
      have hx2 : x.f0 < (f.length : Int) := hx.2
      obtain ⟨go, co, eo, hge, _⟩ := Kd.R_form HL.out.1 (by omega)
      rw [hgl] at eo
      injection eo with e1 _ e3
      subst e1 e3
      have HGO := Lib.hid hge
      have q0 := (int_elem HL.out.1 x.f0 hx.1 hx2).1
      obtain ⟨fv, hfv⟩ : ∃ fv, fv = rd g x.f0 := ⟨_, rfl⟩
      rw [← hfv] at q0 hfb
      have hsame : rd (goF g x k) x.f0 = if x.f1 = true then fv - k else fv + k := by
        unfold goF
        rw [← hfv]
        unfold rd
        rw [List.getD_eq_getElem?_getD, List.getElem?_set_self (by omega)]
        rfl
      rw [hsame] at hfb2
      have HGF : Hid (goF g x k = g.set x.f0.toNat (if x.f1 = true then fv - k else fv + k)) := Lib.hid (by unfold goF; rw [hfv])
      clear hg hgl hge hfv hsame
      obtain ⟨xa, xb⟩ := x
      cases xb with
      | true =>
        have hfb2 : 0 ≤ fv - k ∧ fv - k ≤ 1099511627776 := hfb2
        have HGS : Hid (goL f (way.take (i + 1)) k = g.set xa.toNat (fv - k)) := Lib.hid (HGS0.out.trans HGF.out)
        clear HGS0 HGF
        have y0 : wr.cell? (ad.add (i * 2)) = some (.int .i64 xa) := y0
        have y1 : wr.cell? ⟨(ad.add (i * 2)).block, (ad.add (i * 2)).off + 1, none⟩ = some (.bool true) := y1
        have q0 : wr.cell? ⟨go, xa.toNat, none⟩ = some (.int .i64 fv) := q0
        have xa0 : 0 ≤ xa := hx.1
        have xa1 : xa < (f.length : Int) := hx2
        go_wp2
        refine stepS (S := fun w' => w'.cell? (ad.add (i * 2)) = some (.int .i64 xa) ∧ w'.cell? ⟨go, xa.toNat, none⟩ = some (.int .i64 fv)) (ds := [17]) 18 (by kernel_rfl) rfl ⟨by simpa using y0, by simpa using q0⟩ (fun hHeld => ?_)
        have HG := Lib.hid (And.intro (Kd.R_drew HL.out.1) (And.intro (below_drew1 HL.out.2) (int_elem (Kd.R_drew HL.out.1) xa xa0 xa1).2.2))
        have q1 := (int_elem (Kd.R_drew HL.out.1) xa xa0 xa1).2.1
        generalize wr.drew = wd at HG hHeld q0 q1 ⊢
        clear y0 y1
        refine stepPi 0 (N := some _) (v := ?_) (a' := ?_) rfl rfl (by kernel_rfl) (fun _ _ _ h => h) (Or.inl ⟨by rfl, ?_⟩) ?_ ?_
        rotate_left
        · (intro w'; go_simp; with_reducible rfl)
        rotate_left
        · (simp only [Act.put, List.setIfInBounds_toArray, List.set_cons_zero, List.set_cons_succ]; rfl)
        refine stepPi 1 (N := some _) (v := ?_) (a' := ?_) rfl rfl (by kernel_rfl) (fun _ _ _ h => h) (Or.inl ⟨by rfl, ?_⟩) ?_ ?_
        rotate_left
        · (intro w'; go_simp; with_reducible rfl)
        rotate_left
        · (simp only [Act.put, List.setIfInBounds_toArray, List.set_cons_zero, List.set_cons_succ]; rfl)
        refine stepPi 2 (N := some _) (v := ?_) (a' := ?_) rfl rfl (by kernel_rfl) (fun _ _ _ h => h) (Or.inl ⟨by rfl, ?_⟩) ?_ ?_
        rotate_left
        · (intro w'; go_simp; with_reducible rfl)
        rotate_left
        · (simp only [Act.put, List.setIfInBounds_toArray, List.set_cons_zero, List.set_cons_succ]; rfl)
        refine stepPi 3 (N := some _) (v := ?_) (a' := ?_) rfl rfl (by kernel_rfl) (fun _ _ _ h => h) (Or.inl ⟨by rfl, ?_⟩) ?_ ?_
        rotate_left
        · (intro w'; go_simp; with_reducible rfl)
        rotate_left
        · (simp only [Act.put, List.setIfInBounds_toArray, List.set_cons_zero, List.set_cons_succ]; rfl)
        refine stepPi 4 (N := some _) (v := ?_) (a' := ?_) rfl rfl (by kernel_rfl) (fun _ _ _ h => h) (Or.inl ⟨by rfl, ?_⟩) ?_ ?_
        rotate_left
        · (intro w'; go_simp; with_reducible rfl)
        rotate_left
        · (simp only [Act.put, List.setIfInBounds_toArray, List.set_cons_zero, List.set_cons_succ]; rfl)
        refine stepTi 5 (N := some _) (v := ?_) (a' := ?_) rfl rfl (by kernel_rfl) (fun _ _ _ h => h) (Or.inl ⟨by rfl, ?_⟩) hHeld ?_ ?_
        rotate_left
        · (rintro w' ⟨s0, s1⟩; go_simp; with_reducible rfl)
        rotate_left
        · (simp only [Act.put, List.setIfInBounds_toArray, List.set_cons_zero, List.set_cons_succ]; rfl)
        refine stepPi 6 (N := some _) (v := ?_) (a' := ?_) rfl rfl (by kernel_rfl) (fun _ _ _ h => h) (Or.inl ⟨by rfl, ?_⟩) ?_ ?_
        rotate_left
        · (intro w'; go_simp; with_reducible rfl)
        rotate_left
        · (simp only [Act.put, List.setIfInBounds_toArray, List.set_cons_zero, List.set_cons_succ]; rfl)
        refine stepPi 7 (N := some _) (v := ?_) (a' := ?_) rfl rfl (by kernel_rfl) (fun _ _ _ h => h) (Or.inl ⟨by rfl, ?_⟩) ?_ ?_
        rotate_left
        · (intro w'; go_simp; with_reducible rfl)
        rotate_left
        · (simp only [Act.put, List.setIfInBounds_toArray, List.set_cons_zero, List.set_cons_succ]; rfl)
        refine stepPi 8 (N := some _) (v := ?_) (a' := ?_) rfl rfl (by kernel_rfl) (fun _ _ _ h => h) (Or.inl ⟨by rfl, ?_⟩) ?_ ?_
        rotate_left
        · (intro w'; go_simp; with_reducible rfl)
        rotate_left
        · (simp only [Act.put, List.setIfInBounds_toArray, List.set_cons_zero, List.set_cons_succ]; rfl)
        refine stepPi 9 (N := some _) (v := ?_) (a' := ?_) rfl rfl (by kernel_rfl) (fun _ _ _ h => h) (Or.inl ⟨by rfl, ?_⟩) ?_ ?_
        rotate_left
        · (intro w'; go_simp; with_reducible rfl)
        rotate_left
        · (simp only [Act.put, List.setIfInBounds_toArray, List.set_cons_zero, List.set_cons_succ]; rfl)
        refine stepPi 10 (N := some _) (v := ?_) (a' := ?_) rfl rfl (by kernel_rfl) (fun _ _ _ h => h) (Or.inl ⟨by rfl, ?_⟩) ?_ ?_
        rotate_left
        · (intro w'; go_simp; with_reducible rfl)
        rotate_left
        · (simp only [Act.put, List.setIfInBounds_toArray, List.set_cons_zero, List.set_cons_succ]; rfl)
        refine stepTi 11 (N := some _) (v := ?_) (a' := ?_) rfl rfl (by kernel_rfl) (fun _ _ _ h => h) (Or.inl ⟨by rfl, ?_⟩) hHeld ?_ ?_
        rotate_left
        · (rintro w' ⟨s0, s1⟩; go_simp; with_reducible rfl)
        rotate_left
        · (simp only [Act.put, List.setIfInBounds_toArray, List.set_cons_zero, List.set_cons_succ]; rfl)
        refine stepPi 12 (N := some _) (v := ?_) (a' := ?_) rfl rfl (by kernel_rfl) (fun _ _ _ h => h) (Or.inl ⟨by rfl, ?_⟩) ?_ ?_
        rotate_left
        · (intro w'; go_simp; with_reducible rfl)
        rotate_left
        · (simp only [Act.put, List.setIfInBounds_toArray, List.set_cons_zero, List.set_cons_succ]; rfl)
        refine stepTi 13 (N := some _) (v := ?_) (a' := ?_) rfl rfl (by kernel_rfl) (fun _ _ _ h => h) (Or.inl ⟨by rfl, ?_⟩) hHeld ?_ ?_
        rotate_left
        · (rintro w' ⟨s0, s1⟩; go_simp; with_reducible rfl)
        rotate_left
        · (simp only [Act.put, List.setIfInBounds_toArray, List.set_cons_zero, List.set_cons_succ]; rfl)
        refine stepPi 14 (N := some _) (v := ?_) (a' := ?_) rfl rfl (by kernel_rfl) (fun _ _ _ h => h) (Or.inl ⟨by rfl, ?_⟩) ?_ ?_
        rotate_left
        · (intro w'; go_simp; with_reducible rfl)
        rotate_left
        · (simp only [Act.put, List.setIfInBounds_toArray, List.set_cons_zero, List.set_cons_succ]; rfl)
        refine stepPi 15 (N := some _) (v := ?_) (a' := ?_) rfl rfl (by kernel_rfl) (fun _ _ _ h => h) (Or.inl ⟨by rfl, ?_⟩) ?_ ?_
        rotate_left
        · (intro w'; go_simp; with_reducible rfl)
        rotate_left
        · (simp only [Act.put, List.setIfInBounds_toArray, List.set_cons_zero, List.set_cons_succ]; rfl)
        refine stepPi 16 (N := some _) (v := ?_) (a' := ?_) rfl rfl (by kernel_rfl) (fun _ _ _ h => h) (Or.inl ⟨by rfl, ?_⟩) ?_ ?_
        rotate_left
        · (intro w'; go_simp; with_reducible rfl)
        rotate_left
        · (simp only [Act.put, List.setIfInBounds_toArray, List.set_cons_zero, List.set_cons_succ]; rfl)
        refine stepLi 17 (N := none) rfl rfl (by kernel_rfl) (by decide) (fun K hK => ?_)
        refine skip_ (w1 := ?_) (by rfl) rfl ?_ ?_
        rotate_left
        · go_simp
          rfl
        refine hK.out _ _ ?_
        clear hK K hHeld
        refine done_ (by kernel_rfl) ?_
        have HG2 := Lib.hid (And.intro (HG.out.2.2 (fv - k)) (below_set HG.out.2.1 HGO.out (j := xa.toNat) (v := .int .i64 (fv - k))))
        clear HG q0 q1
        go_wp2
        go_roundg (way.length - (i + 1))
        case measure => omega
        case rel => exact ⟨i + 1, by omega, by go_num, rfl, Lib.hid ⟨by rw [HGS.out]; exact HG2.out.1, HG2.out.2⟩⟩
      | false =>
        have hfb2 : 0 ≤ fv + k ∧ fv + k ≤ 1099511627776 := hfb2
        have HGS : Hid (goL f (way.take (i + 1)) k = g.set xa.toNat (fv + k)) := Lib.hid (HGS0.out.trans HGF.out)
        clear HGS0 HGF
        have y0 : wr.cell? (ad.add (i * 2)) = some (.int .i64 xa) := y0
        have y1 : wr.cell? ⟨(ad.add (i * 2)).block, (ad.add (i * 2)).off + 1, none⟩ = some (.bool false) := y1
        have q0 : wr.cell? ⟨go, xa.toNat, none⟩ = some (.int .i64 fv) := q0
        have xa0 : 0 ≤ xa := hx.1
        have xa1 : xa < (f.length : Int) := hx2
        go_wp2
        refine stepS (S := fun w' => w'.cell? (ad.add (i * 2)) = some (.int .i64 xa) ∧ w'.cell? ⟨go, xa.toNat, none⟩ = some (.int .i64 fv)) (ds := [17]) 18 (by kernel_rfl) rfl ⟨by simpa using y0, by simpa using q0⟩ (fun hHeld => ?_)
        have HG := Lib.hid (And.intro (Kd.R_drew HL.out.1) (And.intro (below_drew1 HL.out.2) (int_elem (Kd.R_drew HL.out.1) xa xa0 xa1).2.2))
        have q1 := (int_elem (Kd.R_drew HL.out.1) xa xa0 xa1).2.1
        generalize wr.drew = wd at HG hHeld q0 q1 ⊢
        clear y0 y1
        refine stepPi 0 (N := some _) (v := ?_) (a' := ?_) rfl rfl (by kernel_rfl) (fun _ _ _ h => h) (Or.inl ⟨by rfl, ?_⟩) ?_ ?_
        rotate_left
        · (intro w'; go_simp; with_reducible rfl)
        rotate_left
        · (simp only [Act.put, List.setIfInBounds_toArray, List.set_cons_zero, List.set_cons_succ]; rfl)
        refine stepPi 1 (N := some _) (v := ?_) (a' := ?_) rfl rfl (by kernel_rfl) (fun _ _ _ h => h) (Or.inl ⟨by rfl, ?_⟩) ?_ ?_
        rotate_left
        · (intro w'; go_simp; with_reducible rfl)
        rotate_left
        · (simp only [Act.put, List.setIfInBounds_toArray, List.set_cons_zero, List.set_cons_succ]; rfl)
        refine stepPi 2 (N := some _) (v := ?_) (a' := ?_) rfl rfl (by kernel_rfl) (fun _ _ _ h => h) (Or.inl ⟨by rfl, ?_⟩) ?_ ?_
        rotate_left
        · (intro w'; go_simp; with_reducible rfl)
        rotate_left
        · (simp only [Act.put, List.setIfInBounds_toArray, List.set_cons_zero, List.set_cons_succ]; rfl)
        refine stepPi 3 (N := some _) (v := ?_) (a' := ?_) rfl rfl (by kernel_rfl) (fun _ _ _ h => h) (Or.inl ⟨by rfl, ?_⟩) ?_ ?_
        rotate_left
        · (intro w'; go_simp; with_reducible rfl)
        rotate_left
        · (simp only [Act.put, List.setIfInBounds_toArray, List.set_cons_zero, List.set_cons_succ]; rfl)
        refine stepPi 4 (N := some _) (v := ?_) (a' := ?_) rfl rfl (by kernel_rfl) (fun _ _ _ h => h) (Or.inl ⟨by rfl, ?_⟩) ?_ ?_
        rotate_left
        · (intro w'; go_simp; with_reducible rfl)
        rotate_left
        · (simp only [Act.put, List.setIfInBounds_toArray, List.set_cons_zero, List.set_cons_succ]; rfl)
        refine stepTi 5 (N := some _) (v := ?_) (a' := ?_) rfl rfl (by kernel_rfl) (fun _ _ _ h => h) (Or.inl ⟨by rfl, ?_⟩) hHeld ?_ ?_
        rotate_left
        · (rintro w' ⟨s0, s1⟩; go_simp; with_reducible rfl)
        rotate_left
        · (simp only [Act.put, List.setIfInBounds_toArray, List.set_cons_zero, List.set_cons_succ]; rfl)
        refine stepPi 6 (N := some _) (v := ?_) (a' := ?_) rfl rfl (by kernel_rfl) (fun _ _ _ h => h) (Or.inl ⟨by rfl, ?_⟩) ?_ ?_
        rotate_left
        · (intro w'; go_simp; with_reducible rfl)
        rotate_left
        · (simp only [Act.put, List.setIfInBounds_toArray, List.set_cons_zero, List.set_cons_succ]; rfl)
        refine stepPi 7 (N := some _) (v := ?_) (a' := ?_) rfl rfl (by kernel_rfl) (fun _ _ _ h => h) (Or.inl ⟨by rfl, ?_⟩) ?_ ?_
        rotate_left
        · (intro w'; go_simp; with_reducible rfl)
        rotate_left
        · (simp only [Act.put, List.setIfInBounds_toArray, List.set_cons_zero, List.set_cons_succ]; rfl)
        refine stepPi 8 (N := some _) (v := ?_) (a' := ?_) rfl rfl (by kernel_rfl) (fun _ _ _ h => h) (Or.inl ⟨by rfl, ?_⟩) ?_ ?_
        rotate_left
        · (intro w'; go_simp; with_reducible rfl)
        rotate_left
        · (simp only [Act.put, List.setIfInBounds_toArray, List.set_cons_zero, List.set_cons_succ]; rfl)
        refine stepPi 9 (N := some _) (v := ?_) (a' := ?_) rfl rfl (by kernel_rfl) (fun _ _ _ h => h) (Or.inl ⟨by rfl, ?_⟩) ?_ ?_
        rotate_left
        · (intro w'; go_simp; with_reducible rfl)
        rotate_left
        · (simp only [Act.put, List.setIfInBounds_toArray, List.set_cons_zero, List.set_cons_succ]; rfl)
        refine stepPi 10 (N := some _) (v := ?_) (a' := ?_) rfl rfl (by kernel_rfl) (fun _ _ _ h => h) (Or.inl ⟨by rfl, ?_⟩) ?_ ?_
        rotate_left
        · (intro w'; go_simp; with_reducible rfl)
        rotate_left
        · (simp only [Act.put, List.setIfInBounds_toArray, List.set_cons_zero, List.set_cons_succ]; rfl)
        refine stepTi 11 (N := some _) (v := ?_) (a' := ?_) rfl rfl (by kernel_rfl) (fun _ _ _ h => h) (Or.inl ⟨by rfl, ?_⟩) hHeld ?_ ?_
        rotate_left
        · (rintro w' ⟨s0, s1⟩; go_simp; with_reducible rfl)
        rotate_left
        · (simp only [Act.put, List.setIfInBounds_toArray, List.set_cons_zero, List.set_cons_succ]; rfl)
        refine stepPi 12 (N := some _) (v := ?_) (a' := ?_) rfl rfl (by kernel_rfl) (fun _ _ _ h => h) (Or.inl ⟨by rfl, ?_⟩) ?_ ?_
        rotate_left
        · (intro w'; go_simp; with_reducible rfl)
        rotate_left
        · (simp only [Act.put, List.setIfInBounds_toArray, List.set_cons_zero, List.set_cons_succ]; rfl)
        refine stepTi 13 (N := some _) (v := ?_) (a' := ?_) rfl rfl (by kernel_rfl) (fun _ _ _ h => h) (Or.inl ⟨by rfl, ?_⟩) hHeld ?_ ?_
        rotate_left
        · (rintro w' ⟨s0, s1⟩; go_simp; with_reducible rfl)
        rotate_left
        · (simp only [Act.put, List.setIfInBounds_toArray, List.set_cons_zero, List.set_cons_succ]; rfl)
        refine stepPi 14 (N := some _) (v := ?_) (a' := ?_) rfl rfl (by kernel_rfl) (fun _ _ _ h => h) (Or.inl ⟨by rfl, ?_⟩) ?_ ?_
        rotate_left
        · (intro w'; go_simp; with_reducible rfl)
        rotate_left
        · (simp only [Act.put, List.setIfInBounds_toArray, List.set_cons_zero, List.set_cons_succ]; rfl)
        refine stepPi 15 (N := some _) (v := ?_) (a' := ?_) rfl rfl (by kernel_rfl) (fun _ _ _ h => h) (Or.inl ⟨by rfl, ?_⟩) ?_ ?_
        rotate_left
        · (intro w'; go_simp; with_reducible rfl)
        rotate_left
        · (simp only [Act.put, List.setIfInBounds_toArray, List.set_cons_zero, List.set_cons_succ]; rfl)
        refine stepPi 16 (N := some _) (v := ?_) (a' := ?_) rfl rfl (by kernel_rfl) (fun _ _ _ h => h) (Or.inl ⟨by rfl, ?_⟩) ?_ ?_
        rotate_left
        · (intro w'; go_simp; with_reducible rfl)
        rotate_left
        · (simp only [Act.put, List.setIfInBounds_toArray, List.set_cons_zero, List.set_cons_succ]; rfl)
        refine stepLi 17 (N := none) rfl rfl (by kernel_rfl) (by decide) (fun K hK => ?_)
        refine skip_ (w1 := ?_) (by rfl) rfl ?_ ?_
        rotate_left
        · go_simp
          rfl
        refine hK.out _ _ ?_
        clear hK K hHeld
        refine done_ (by kernel_rfl) ?_
        have HG2 := Lib.hid (And.intro (HG.out.2.2 (fv + k)) (below_set HG.out.2.1 HGO.out (j := xa.toNat) (v := .int .i64 (fv + k))))
        clear HG q0 q1
        go_wp2
        go_roundg (way.length - (i + 1))
        case measure => omega
        case rel => exact ⟨i + 1, by omega, by go_num, rfl, Lib.hid ⟨by rw [HGS.out]; exact HG2.out.1, HG2.out.2⟩⟩
    · have e : i = way.length := by omega
      have d2 : ¬ (i : Int) < (way.length : Int) := by omega
      have HE := Lib.hid e
      clear e
      go_wp2
      go_ret
      have h9 := HL.out.1
      rw [HE.out, List.take_of_length_le (Nat.le_refl _)] at h9
      have hgl := goL_len k way f
      exact ⟨A1, c1, by rw [hgl]; rfl, by rw [hgl]; exact h9, HL.out.2⟩
end Go.Proofs.Ytcgdloldkcmhnaa.H
end
section
namespace Go.Proofs.Ytcgdloldkcmhnaa.H
open Go Go.RowKit Go.Proofs.Ytcgdloldkcmhnaa.PrintC Go.Proofs.YtcgdloldkcmhnaaW.PrintWords Go.Proofs.YtcgdloldkcmhnaaW.PrintLast Go.Proofs.YtcgdloldkcmhnaaW.PrintMore Go.Proofs.Ytcgdloldkcmhnaa.Flow
set_option linter.unusedVariables false
set_option linter.unusedSimpArgs false
theorem wayOk_of {M : Nat} {l : List Arc} {f : List Int} {L : List Stp} {s t : Nat} {d : Int → Int} {way : List Stp} (hn : NetOk M l) (hL : StP l f l.length L) (h : WayP l L s t d way) : WayOk M l f (fun u => d (u : Int)) s t way := by
  have ha : ∀ x, x ∈ way → (0 ≤ x.f0 ∧ x.f0 < (l.length : Int)) ∧ 0 < rmv l f x := fun x hx => (hL.1 x).1 (h.1 x hx).1
  exact ⟨fun x hx => (ha x hx).1, fun x hx => (ha x hx).2, fun x hx => by
    have h1 := tgt_ok hn (ha x hx).1.1 (ha x hx).1.2
    have h2 := src_ok hn (ha x hx).1.1 (ha x hx).1.2
    show d (((tgt l x).toNat : Nat) : Int) = d (((src l x).toNat : Nat) : Int) + 1
    rw [Int.toNat_of_nonneg h1.1, Int.toNat_of_nonneg h2.1]
    exact (h.1 x hx).2, h.2⟩
theorem nw_closed {M : Nat} {l : List Arc} {f : List Int} {L : List Stp} {s t : Int} (hL : StP l f l.length L) (h : NoWay l L M s t) : ∃ S : Int → Bool, Closed l.length (frOf l) (toOf l) (capOf l) (dOf f) S ∧ S s = true ∧ S t = false := by
  obtain ⟨N, h1, h2, h3⟩ := h
  refine ⟨fun v => decide (v ∈ N), fun i hi => ⟨fun g1 g2 => ?_, fun g1 g2 => ?_⟩, decide_eq_true h1, decide_eq_false h2⟩
  · have hx : (⟨(i : Int), false⟩ : Stp) ∈ L := (hL.1 _).2 ⟨⟨by show (0 : Int) ≤ (i : Int); omega, by show (i : Int) < (l.length : Int); omega⟩, by
      show 0 < (rd_T79 l (i : Int)).f2 - rd f (i : Int)
      have : rd f (i : Int) < (rd_T79 l (i : Int)).f2 := g2
      omega⟩
    exact decide_eq_true (h3 _ hx (of_decide_eq_true g1))
  · have hx : (⟨(i : Int), true⟩ : Stp) ∈ L := (hL.1 _).2 ⟨⟨by show (0 : Int) ≤ (i : Int); omega, by show (i : Int) < (l.length : Int); omega⟩, g2⟩
    exact decide_eq_true (h3 _ hx (of_decide_eq_true g1))
theorem top_of {M : Nat} {l : List Arc} {f : List Int} {L : List Stp} {s t : Nat} (hf : FlowOk l f) (hb : Bal l.length (frOf l) (toOf l) M s t (dOf f)) (hL : StP l f l.length L) (h : NoWay l L M s t) : ∃ S : Int → Bool, Top l.length (frOf l) (toOf l) M s t (capOf l) (dOf f) S := by
  obtain ⟨S, h1⟩ := nw_closed hL h
  exact ⟨S, within_of hf, hb, h1⟩
def BestAt (l : List Arc) (M s t : Nat) (w : World) (e : Ending) (w' : World) : Prop := ∃ (f : List Int) (A1 : Option Addr) (c1 : Nat) (S : Int → Bool), e = .returned (.slice A1 f.length c1) ∧ Kd.C (Kd.int .i64) w' A1 f.length f ∧ FlowOk l f ∧ Top l.length (frOf l) (toOf l) M s t (capOf l) (dOf f) S ∧ Below w.heap.size w w'
theorem rsteps_at (M : Nat) (n : Int) (b : Bool) (A : Option Addr) (c : Nat) (l : List Arc) (Af : Option Addr) (cf : Nat) (f : List Int) (m : Nat) (hm : f.length = m) (w : World) (hn : NetOk M l) (hf : FlowOk l f) (hr : Kd.C k79 w A l.length l) (hF : Kd.C (Kd.int .i64) w Af f.length f) :
    Calls Try.prog 72 #[.agg #[.int .i64 n, .bool b, .slice A l.length c], .slice Af m cf] w (StepsAt l f w) := by
  subst hm
  exact rsteps_walk M n b A c l Af cf f w hn hf hr hF
theorem bottle_at (M : Nat) (n : Int) (b : Bool) (A : Option Addr) (c : Nat) (l : List Arc) (Af : Option Addr) (cf : Nat) (f : List Int) (m : Nat) (hm : f.length = m) (Aw : Option Addr) (cw : Nat) (way : List Stp) (w : World) (hn : NetOk M l) (hf : FlowOk l f) (hr : Kd.C k79 w A l.length l) (hF : Kd.C (Kd.int .i64) w Af f.length f) (hW : Kd.C kStep w Aw way.length way) (hin : ∀ x, x ∈ way → 0 ≤ x.f0 ∧ x.f0 < (l.length : Int)) (h0 : 0 < way.length) (hwl : way.length ≤ 1000000) :
    Calls Try.prog 74 #[.agg #[.int .i64 n, .bool b, .slice A l.length c], .slice Af m cf, .slice Aw way.length cw] w (BottleAt l f way w) := by
  subst hm
  exact bottle_walk M n b A c l Af cf f Aw cw way w hn hf hr hF hW hin h0 hwl
theorem pushed_at (l : List Arc) (Af : Option Addr) (cf : Nat) (f : List Int) (m : Nat) (hm : f.length = m) (Aw : Option Addr) (cw : Nat) (way : List Stp) (k : Int) (w : World) (hF : Kd.C (Kd.int .i64) w Af f.length f) (hW : Kd.C kStep w Aw way.length way) (hin : ∀ x, x ∈ way → 0 ≤ x.f0 ∧ x.f0 < (f.length : Int)) (hwl : way.length ≤ 1000000) (hfl : f.length ≤ 1000000) (hk : 0 ≤ k ∧ k ≤ 1099511627776)
    (hok : ∀ j, j ≤ way.length → ∀ a : Int, 0 ≤ a → a < f.length → 0 ≤ rd (goL f (way.take j) k) a ∧ rd (goL f (way.take j) k) a ≤ 1099511627776) :
    Calls Try.prog 73 #[.slice Af m cf, .slice Aw way.length cw, .int .i64 k] w (PushedAt (goL f way k) w) := by
  subst hm
  exact pushed_walk l Af cf f Aw cw way k w hF hW hin hwl hfl hk hok
set_option maxHeartbeats 4000000 in
set_option maxRecDepth 100000 in
theorem best_walk (M s t : Nat) (n : Int) (b : Bool) (A : Option Addr) (c : Nat) (l : List Arc) (w : World) (hn : NetOk M l) (hcap : ∀ i : Int, 0 ≤ i → i < l.length → 0 ≤ (rd_T79 l i).f2) (hs : s < M) (ht : t < M) (hst : s ≠ t) (hr : Kd.C k79 w A l.length l) :
    Calls Try.prog 38 #[.agg #[.int .i64 n, .bool b, .slice A l.length c], .int .i64 s, .int .i64 t] w (BestAt l M s t w) := by
  have HN := Lib.hid hn
  have HR := Lib.hid hr
  have HZ := Lib.hid (zero_flow (n := M) (s := s) (t := t) hcap)
  have HST := Lib.hid (And.intro hs (And.intro ht hst))
  have hll := hn.ll
  have hm1 := hn.n1
  clear hn hcap hr hst
  have hu := Try.underlying32
  have hmk : ∀ W : World, (Instr.makeSlice 69 (.int .i64 (l.length : Int)) (.int .i64 (l.length : Int))).run Try.prog W = .ok (.slice (some ⟨W.heap.size, 0, none⟩) l.length l.length) (W.alloc (.cells (madeCells #[.int .i64 0] l.length) 3)) := fun W => by
    obtain ⟨i0, hi, hz0, hz1, hz2⟩ := info_parts infoInt
    have := run_make (P := Try.prog) W 69 3 i0 (.int .i64 0) Try.underlying69 hi hz0 .i64 .i64 (l.length : Int) (l.length : Int) (by omega) (by omega) (by rw [hz2]; omega) (by omega)
    rw [hz1, Int.toNat_natCast, Nat.mul_one] at this
    exact this
  go_enter Try.func38, Try.ntmps38
  obtain ⟨w1, hw1⟩ : ∃ w1, w1 = w.alloc (.cells #[.int .i64 n, .bool b, .slice A l.length c] 32) := ⟨_, rfl⟩
  have hbk := made_blk (w.alloc (.cells #[.int .i64 n, .bool b, .slice A l.length c] 32)) l.length
  obtain ⟨w2, hw2⟩ : ∃ w2, w2 = (w.alloc (.cells #[.int .i64 n, .bool b, .slice A l.length c] 32)).alloc (.cells (madeCells #[.int .i64 0] l.length) 3) := ⟨_, rfl⟩
  rw [← hw2] at hbk
  rw [alloc_size] at hbk
  have HX : Hid (w2.heap[w.heap.size]? = some (.cells #[.int .i64 n, .bool b, .slice A l.length c] 32 (0, 0)) ∧ Below w.heap.size w w2 ∧ Kd.C (Kd.int .i64) w2 (some ⟨w.heap.size + 1, 0, none⟩) (List.replicate l.length (0 : Int)).length (List.replicate l.length (0 : Int))) := Lib.hid ⟨by rw [hw2]; exact blk_alloc (heap_alloc_new _ _) _, by rw [hw2]; exact below_alloc (below_alloc (Below.refl _ _) _) _, IntBlk.reads hbk (by rw [List.length_replicate]; omega)⟩
  clear hbk hw1 w1
  go_wp2
  rw [← hw2]
  clear hw2 hmk
  obtain ⟨T, hT⟩ : ∃ T, T = takes l.length (frOf l) (toOf l) (capOf l) (fun v => decide (v = (s : Int))) := ⟨_, rfl⟩
  have HT := Lib.hid hT
  clear hT
  generalize w.heap.size + 1 = g0 at HX ⊢
  go_loopg [7] ((T - leaves l.length (frOf l) (toOf l) (dOf (List.replicate l.length (0 : Int))) s).toNat + 1) (fun k fv W => ∃ (f : List Int) (Af : Option Addr) (cf : Nat), fv = .slice Af l.length cf ∧ k = (T - leaves l.length (frOf l) (toOf l) (dOf f) s).toNat + 1 ∧ Hid (W.heap[w.heap.size]? = some (.cells #[.int .i64 n, .bool b, .slice A l.length c] 32 (0, 0)) ∧ Below w.heap.size w W ∧ Kd.C (Kd.int .i64) W Af f.length f ∧ FlowOk l f ∧ Bal l.length (frOf l) (toOf l) M s t (dOf f)))
  case atStart => exact ⟨List.replicate l.length 0, some ⟨g0, 0, none⟩, l.length, rfl, rfl, Lib.hid ⟨HX.out.1, HX.out.2.1, HX.out.2.2, HZ.out.1, HZ.out.2⟩⟩
  case round =>
    obtain ⟨f, Af, cf, rfl, rfl, HL⟩ := hrel
    clear HX HZ
    have HFL := Lib.hid HL.out.2.2.2.1.len
    go_wp2
    have HB9 := Lib.hid (And.intro (blk_drew HL.out.1) (And.intro (below_drew1 HL.out.2.1) (Kd.C_drew HL.out.2.2.1)))
    have x0 : wr.drew.cell? ⟨w.heap.size, 0, none⟩ = some (.int .i64 n) := (blk_cell HB9.out.1 0).trans rfl
    have x1 : wr.drew.cell? ⟨w.heap.size, 1, none⟩ = some (.bool b) := (blk_cell HB9.out.1 1).trans rfl
    have x2 : wr.drew.cell? ⟨w.heap.size, 2, none⟩ = some (.slice A l.length c) := (blk_cell HB9.out.1 2).trans rfl
    refine stepS (S := fun w' => w'.cell? ⟨w.heap.size, 0, none⟩ = some (.int .i64 n) ∧ w'.cell? ⟨w.heap.size, 1, none⟩ = some (.bool b) ∧ w'.cell? ⟨w.heap.size, 2, none⟩ = some (.slice A l.length c)) (ds := [6]) 12 (by kernel_rfl) rfl ⟨x0, x1, x2⟩ (fun hHeld => ?_)
    generalize wr.drew = wd at HB9 hHeld ⊢
    clear x0 x1 x2
    refine stepTi 0 (N := some _) (v := ?_) (a' := ?_) rfl rfl (by kernel_rfl) (fun _ _ _ h => h) (Or.inl ⟨by rfl, ?_⟩) hHeld ?_ ?_
    rotate_left
    · (rintro w' ⟨s0, s1, s2⟩; go_simp; with_reducible rfl)
    rotate_left
    · (simp only [Act.put, List.setIfInBounds_toArray, List.set_cons_zero, List.set_cons_succ]; rfl)
    refine stepPi 1 (N := some _) (v := ?_) (a' := ?_) rfl rfl (by kernel_rfl) (fun _ _ _ h => h) (Or.inl ⟨by rfl, ?_⟩) ?_ ?_
    rotate_left
    · (intro w'; go_simp; with_reducible rfl)
    rotate_left
    · (simp only [Act.put, List.setIfInBounds_toArray, List.set_cons_zero, List.set_cons_succ]; rfl)
    refine stepPi 2 (N := some _) (v := ?_) (a' := ?_) rfl rfl (by kernel_rfl) (fun _ _ _ h => h) (Or.inl ⟨by rfl, ?_⟩) ?_ ?_
    rotate_left
    · (intro w'; go_simp; with_reducible rfl)
    rotate_left
    · (simp only [Act.put, List.setIfInBounds_toArray, List.set_cons_zero, List.set_cons_succ]; rfl)
    refine stepTi 3 (N := some _) (v := ?_) (a' := ?_) rfl rfl (by kernel_rfl) (fun _ _ _ h => h) (Or.inl ⟨by rfl, ?_⟩) hHeld ?_ ?_
    rotate_left
    · (rintro w' ⟨s0, s1, s2⟩; go_simp; with_reducible rfl)
    rotate_left
    · (simp only [Act.put, List.setIfInBounds_toArray, List.set_cons_zero, List.set_cons_succ]; rfl)
    refine stepPi 4 (N := some _) (v := ?_) (a' := ?_) rfl rfl (by kernel_rfl) (fun _ _ _ h => h) (Or.inl ⟨by rfl, ?_⟩) ?_ ?_
    rotate_left
    · (intro w'; go_simp; with_reducible rfl)
    rotate_left
    · (simp only [Act.put, List.setIfInBounds_toArray, List.set_cons_zero, List.set_cons_succ]; rfl)
    refine stepEi 5 (N := some 20) rfl rfl (by kernel_rfl) (by decide) (fun K hK => ?_)
    refine goes_ Try.func72 (by kernel_rfl) rfl #[.agg #[.int .i64 n, .bool b, .slice A l.length c], .slice Af l.length cf] (by rfl) rfl rfl (by (try simp only [List.map_toArray, List.map_cons, List.map_nil]); rfl) ?_
    refine (rsteps_at M n b A c l Af cf f l.length HFL.out _ HN.out HL.out.2.2.2.1 (Kd.C_below HR.out HB9.out.2.1) HB9.out.2.2).mono ?_
    rintro e w5 ⟨L, As, cs, rfl, hrL, hst, hb⟩
    refine ⟨_, rfl, ?_⟩
    have HB8 := Lib.hid (And.intro (blk_below HB9.out.1 hb) (And.intro (below_step HB9.out.2.1 hb) (Kd.C_below HB9.out.2.2 hb)))
    have HLS := Lib.hid (And.intro (Kd.R_reads' hrL).2.2 hst)
    refine hK.out _ _ ⟨pw_cell_below hb hHeld.1, pw_cell_below hb hHeld.2.1, pw_cell_below hb hHeld.2.2⟩ (fun _ => ?_)
    clear hK K hHeld hb HB9 hrL hst
    refine norm_ (a' := ?_) ?_ ?_
    rotate_left
    · (show Act.put _ (some 20) _ = _; simp only [Act.put, List.setIfInBounds_toArray, List.set_cons_zero, List.set_cons_succ]; rfl)
    refine stepLi 6 (N := some 21) rfl rfl (by kernel_rfl) (by decide) (fun K hK => ?_)
    refine goes_ Try.func71 (by kernel_rfl) rfl #[.agg #[.int .i64 n, .bool b, .slice A l.length c], .int .i64 s, .int .i64 t, .slice As L.length cs] (by rfl) rfl rfl (by (try simp only [List.map_toArray, List.map_cons, List.map_nil]); rfl) ?_
    refine (way_walk n b A c l s t As cs L M _ (Kd.C_below HR.out HB8.out.2.1) HLS.out.1 (fun x hx => by have h9 := (HLS.out.2.1 x).1 hx; exact ⟨h9.1, tgt_ok HN.out h9.1.1 h9.1.2⟩) (by omega) (by have := HST.out.1; omega) hm1 (by have := HLS.out.2.2; omega)).mono ?_
    rintro e w6 ⟨hb, (⟨rfl, hno⟩ | ⟨way, Aw, cw, d, rfl, hrw, hwp, hwl⟩)⟩
    · refine ⟨_, rfl, ?_⟩
      have HB7 := Lib.hid (And.intro (below_step HB8.out.2.1 hb) (Kd.C_below HB8.out.2.2 hb))
      have HNO := Lib.hid hno
      refine hK.out _ _ ?_
      clear hK K hb HB8 hno
      refine norm_ (a' := ?_) ?_ ?_
      rotate_left
      · (show Act.put _ (some 21) _ = _; simp only [Act.put, List.setIfInBounds_toArray, List.set_cons_zero, List.set_cons_succ]; rfl)
      refine stepPi 7 (N := some _) (v := ?_) (a' := ?_) rfl rfl (by kernel_rfl) (fun _ _ _ h => h) (Or.inl ⟨by rfl, ?_⟩) ?_ ?_
      rotate_left
      · (intro w'; go_simp; with_reducible rfl)
      rotate_left
      · (simp only [Act.put, List.setIfInBounds_toArray, List.set_cons_zero, List.set_cons_succ]; rfl)
      refine stepPi 8 (N := some _) (v := ?_) (a' := ?_) rfl rfl (by kernel_rfl) (fun _ _ _ h => h) (Or.inl ⟨by rfl, ?_⟩) ?_ ?_
      rotate_left
      · (intro w'; go_simp; with_reducible rfl)
      rotate_left
      · (simp only [Act.put, List.setIfInBounds_toArray, List.set_cons_zero, List.set_cons_succ]; rfl)
      refine stepPi 9 (N := some _) (v := ?_) (a' := ?_) rfl rfl (by kernel_rfl) (fun _ _ _ h => h) (Or.inl ⟨by rfl, ?_⟩) ?_ ?_
      rotate_left
      · (intro w'; go_simp; with_reducible rfl)
      rotate_left
      · (simp only [Act.put, List.setIfInBounds_toArray, List.set_cons_zero, List.set_cons_succ]; rfl)
      refine stepPi 10 (N := some _) (v := ?_) (a' := ?_) rfl rfl (by kernel_rfl) (fun _ _ _ h => h) (Or.inl ⟨by rfl, ?_⟩) ?_ ?_
      rotate_left
      · (intro w'; go_simp; with_reducible rfl)
      rotate_left
      · (simp only [Act.put, List.setIfInBounds_toArray, List.set_cons_zero, List.set_cons_succ]; rfl)
      refine stepPi 11 (N := some _) (v := ?_) (a' := ?_) rfl rfl (by kernel_rfl) (fun _ _ _ h => h) (Or.inl ⟨by rfl, ?_⟩) ?_ ?_
      rotate_left
      · (intro w'; go_simp; with_reducible rfl)
      rotate_left
      · (simp only [Act.put, List.setIfInBounds_toArray, List.set_cons_zero, List.set_cons_succ]; rfl)
      refine done_ (by kernel_rfl) ?_
      go_wp2
      go_ret
      obtain ⟨S, hS⟩ := top_of HL.out.2.2.2.1 HL.out.2.2.2.2 HLS.out.2 HNO.out
      exact ⟨f, Af, cf, S, by rw [HFL.out]; rfl, HB7.out.2, HL.out.2.2.2.1, hS, HB7.out.1⟩
    · refine ⟨_, rfl, ?_⟩
      have HB7 := Lib.hid (And.intro (blk_below HB8.out.1 hb) (And.intro (below_step HB8.out.2.1 hb) (Kd.C_below HB8.out.2.2 hb)))
      have HWY := Lib.hid (And.intro (Kd.R_reads' hrw).2.2 (wayOk_of HN.out HLS.out.2 hwp))
      refine hK.out _ _ ?_
      clear hK K hb HB8 hrw hwp
      refine norm_ (a' := ?_) ?_ ?_
      rotate_left
      · (show Act.put _ (some 21) _ = _; simp only [Act.put, List.setIfInBounds_toArray, List.set_cons_zero, List.set_cons_succ]; rfl)
      refine stepPi 7 (N := some _) (v := ?_) (a' := ?_) rfl rfl (by kernel_rfl) (fun _ _ _ h => h) (Or.inl ⟨by rfl, ?_⟩) ?_ ?_
      rotate_left
      · (intro w'; go_simp; with_reducible rfl)
      rotate_left
      · (simp only [Act.put, List.setIfInBounds_toArray, List.set_cons_zero, List.set_cons_succ]; rfl)
      refine stepPi 8 (N := some _) (v := ?_) (a' := ?_) rfl rfl (by kernel_rfl) (fun _ _ _ h => h) (Or.inl ⟨by rfl, ?_⟩) ?_ ?_
      rotate_left
      · (intro w'; go_simp; with_reducible rfl)
      rotate_left
      · (simp only [Act.put, List.setIfInBounds_toArray, List.set_cons_zero, List.set_cons_succ]; rfl)
      refine stepPi 9 (N := some _) (v := ?_) (a' := ?_) rfl rfl (by kernel_rfl) (fun _ _ _ h => h) (Or.inl ⟨by rfl, ?_⟩) ?_ ?_
      rotate_left
      · (intro w'; go_simp; with_reducible rfl)
      rotate_left
      · (simp only [Act.put, List.setIfInBounds_toArray, List.set_cons_zero, List.set_cons_succ]; rfl)
      refine stepPi 10 (N := some _) (v := ?_) (a' := ?_) rfl rfl (by kernel_rfl) (fun _ _ _ h => h) (Or.inl ⟨by rfl, ?_⟩) ?_ ?_
      rotate_left
      · (intro w'; go_simp; with_reducible rfl)
      rotate_left
      · (simp only [Act.put, List.setIfInBounds_toArray, List.set_cons_zero, List.set_cons_succ]; rfl)
      refine stepPi 11 (N := some _) (v := ?_) (a' := ?_) rfl rfl (by kernel_rfl) (fun _ _ _ h => h) (Or.inl ⟨by rfl, ?_⟩) ?_ ?_
      rotate_left
      · (intro w'; go_simp; with_reducible rfl)
      rotate_left
      · (simp only [Act.put, List.setIfInBounds_toArray, List.set_cons_zero, List.set_cons_succ]; rfl)
      refine done_ (by kernel_rfl) ?_
      have x0 : w6.cell? ⟨w.heap.size, 0, none⟩ = some (.int .i64 n) := (blk_cell HB7.out.1 0).trans rfl
      have x1 : w6.cell? ⟨w.heap.size, 1, none⟩ = some (.bool b) := (blk_cell HB7.out.1 1).trans rfl
      have x2 : w6.cell? ⟨w.heap.size, 2, none⟩ = some (.slice A l.length c) := (blk_cell HB7.out.1 2).trans rfl
      have hwp0 : 0 < way.length := by
        rcases way with _ | ⟨x, way⟩
        · have := HWY.out.2.chain
          have h9 : (s : Int) = (t : Int) := this
          exact absurd (Int.ofNat.inj h9) HST.out.2.2
        · exact Nat.succ_pos _
      go_wp2_with (first
        | (go_at_call 74; go_loud ((refine (bottle_at M n b A c l Af cf f l.length HFL.out Aw cw way _ HN.out HL.out.2.2.2.1 (Kd.C_below HR.out HB7.out.2.1) HB7.out.2.2 HWY.out.1 HWY.out.2.arcs hwp0 (by omega)).mono ?_; rintro e w7 ⟨r, rfl, hr1, hr2, hb⟩; have HBT := Lib.hid (And.intro hr1 hr2); have HB6 := Lib.hid (And.intro (blk_below HB7.out.1 hb) (And.intro (below_step HB7.out.2.1 hb) (Kd.C_below HB7.out.2.2 hb))); have HW6 := Lib.hid (Kd.C_below HWY.out.1 hb); have hr0 : 1 ≤ r ∧ r ≤ 1099511627776 := (by obtain ⟨x, hx, e⟩ := hr2; have h1 := HWY.out.2.room x hx; have h2 := HWY.out.2.arcs x hx; have h3 := room_ok HN.out HL.out.2.2.2.1 h2.1 h2.2; omega); clear hr1 hr2 hb)))
        | (go_at_call 73; go_loud ((refine (pushed_at l Af cf f l.length HFL.out Aw cw way r _ HB6.out.2.2 HW6.out (fun x hx => by rw [HFL.out]; exact HWY.out.2.arcs x hx) (by omega) (by rw [HFL.out]; omega) ⟨by omega, hr0.2⟩ (fun j hj a h1 h2 => by have h3 := push_flow HL.out.2.2.2.1 HWY.out.2 (k := r) (by omega) HBT.out.1 j; have h4 := h3.wit a h1 (by rw [HFL.out] at h2; exact h2); have h5 := HN.out.caps a h1 (by rw [HFL.out] at h2; exact h2); omega)).mono ?_; rintro e w8 ⟨A8, c8, rfl, hr8, hb⟩; have HB5 := Lib.hid (And.intro (blk_below HB6.out.1 hb) (And.intro (below_step HB6.out.2.1 hb) (Kd.R_reads' hr8).2.2)); clear hr8 hb))))
      have HPF := Lib.hid (push_flow HL.out.2.2.2.1 HWY.out.2 (k := r) (by omega) HBT.out.1 way.length)
      have HPV := Lib.hid (push_value HL.out.2.2.2.1 HWY.out.2 (k := r) HST.out.2.2 HL.out.2.2.2.2)
      have hGL : (goL f way r).length = l.length := (goL_len ..).trans HFL.out
      have hnv := HPV.out.2
      have hvt : leaves l.length (frOf l) (toOf l) (dOf f) s + r ≤ T := by
        rw [← hnv, HT.out]
        exact value_top HN.out (by have := HPF.out; rw [List.take_length] at this; exact this) HPV.out.1 HST.out.1 HST.out.2.2
      go_roundg ((T - leaves l.length (frOf l) (toOf l) (dOf (goL f way r)) s).toNat + 1)
      case measure => rw [hnv]; omega
      case rel => exact ⟨goL f way r, A8, c8, by rw [hGL], rfl, Lib.hid ⟨HB5.out.1, HB5.out.2.1, HB5.out.2.2, by have := HPF.out; rw [List.take_length] at this; exact this, HPV.out.1⟩⟩
end Go.Proofs.Ytcgdloldkcmhnaa.H
end
section
namespace Go.Proofs.Ytcgdloldkcmhnaa.H
open Go Go.RowKit Go.Proofs.Ytcgdloldkcmhnaa.PrintC Go.Proofs.YtcgdloldkcmhnaaW.PrintWords Go.Proofs.YtcgdloldkcmhnaaW.PrintLast Go.Proofs.YtcgdloldkcmhnaaW.PrintMore Go.Proofs.Ytcgdloldkcmhnaa.Flow
set_option linter.unusedVariables false
set_option linter.unusedSimpArgs false
def lv1 (l : List Arc) (f : List Int) (v : Int) (i : Nat) : Int := (if frOf l i = v then dOf f i else 0) - (if toOf l i = v then dOf f i else 0)
theorem lv_is (l : List Arc) (f : List Int) (v : Int) : leaves l.length (frOf l) (toOf l) (dOf f) v = sumN l.length (lv1 l f v) := rfl
set_option maxHeartbeats 4000000 in
set_option maxRecDepth 100000 in
theorem leaves_walk (M : Nat) (n : Int) (b : Bool) (A : Option Addr) (c : Nat) (l : List Arc) (Af : Option Addr) (cf : Nat) (f : List Int) (v : Int) (w : World) (hn : NetOk M l) (hf : FlowOk l f) (hr : Kd.C k79 w A l.length l) (hF : Kd.C (Kd.int .i64) w Af f.length f) :
    Calls Try.prog 39 #[.agg #[.int .i64 n, .bool b, .slice A l.length c], .slice Af f.length cf, .int .i64 v] w fun e w' => e = .returned (.int .i64 (leaves l.length (frOf l) (toOf l) (dOf f) v)) ∧ Below w.heap.size w w' := by
  have hu := Try.underlying32
  have hu3 := Try.underlying79
  have HR := Lib.hid hr
  have HF := Lib.hid hF
  have HLEN := Lib.hid hf.len
  have hll := hn.ll
  rw [lv_is]
  clear hr hF
  go_enter Try.func39, Try.ntmps39
  obtain ⟨w1, hw1⟩ : ∃ w1, w1 = w.alloc (.cells #[.int .i64 n, .bool b, .slice A l.length c] 32) := ⟨_, rfl⟩
  have HX : Hid (w1.heap[w.heap.size]? = some (.cells #[.int .i64 n, .bool b, .slice A l.length c] 32 (0, 0)) ∧ Below w.heap.size w w1) := Lib.hid (by rw [hw1]; exact ⟨heap_alloc_new _ _, below_alloc (Below.refl _ _) _⟩)
  go_wp2
  rw [← hw1]
  clear hw1
  rw [HLEN.out]
  go_loopg [7, 8] l.length (fun k kv iv W => ∃ (i : Nat) (z : Int), i ≤ l.length ∧ kv = .int .i64 z ∧ iv = .int .i64 i ∧ k = l.length - i ∧ (-(i * 1099511627776 : Int) ≤ z ∧ z ≤ i * 1099511627776) ∧ Hid (W.heap[w.heap.size]? = some (.cells #[.int .i64 n, .bool b, .slice A l.length c] 32 (0, 0)) ∧ Below w.heap.size w W ∧ z = sumN i (lv1 l f v)))
  case atStart => exact ⟨0, 0, Nat.zero_le _, rfl, rfl, rfl, by omega, Lib.hid ⟨HX.out.1, HX.out.2, rfl⟩⟩
  case round =>
    obtain ⟨i, z, hi, rfl, rfl, rfl, hz, HL⟩ := hrel
    clear HX
    by_cases d1 : i < l.length
    · have i0 : (0 : Int) ≤ (i : Int) := by omega
      have i1 : (i : Int) < (l.length : Int) := by omega
      have hcap := (hn.caps (i : Int) i0 i1)
      have hfw := (hf.wit (i : Int) i0 i1)
      obtain ⟨ad, ea, y0, y1, y2, y3⟩ := at_T79 (Kd.C_below HR.out HL.out.2.1) (i : Int) i0 i1
      subst ea
      obtain ⟨ae, eb, z0⟩ := Kd.at_int (Kd.C_below HF.out HL.out.2.1) (i : Int) i0 (by rw [HLEN.out]; exact i1)
      subst eb
      rw [Int.toNat_natCast] at y0 y1 z0
      obtain ⟨fv, hfv⟩ : ∃ fv, fv = rd f (i : Int) := ⟨_, rfl⟩
      obtain ⟨p, hp⟩ : ∃ p, p = (rd_T79 l (i : Int)).f0 := ⟨_, rfl⟩
      obtain ⟨q, hq⟩ : ∃ q, q = (rd_T79 l (i : Int)).f1 := ⟨_, rfl⟩
      rw [← hfv] at z0 hfw
      rw [← hp] at y0
      rw [← hq] at y1
      have f0 : 0 ≤ fv ∧ fv ≤ 1099511627776 := by omega
      have x2 : wr.cell? ⟨w.heap.size, 2, none⟩ = some (.slice (some ad) l.length c) := (blk_cell HL.out.1 2).trans rfl
      have G : Hid (lv1 l f v i = (if p = v then fv else 0) - (if q = v then fv else 0)) := Lib.hid (by unfold lv1 frOf toOf dOf arcAt; rw [← hp, ← hq, ← hfv])
      clear y2 y3 hcap hfw hfv hp hq
      by_cases ca : p = v
      · by_cases cb : q = v
        · have t1 : (p == v) = true := beq_iff_eq.2 ca
          have t2 : (q == v) = true := beq_iff_eq.2 cb
          have G2 := Lib.hid (show lv1 l f v i = fv - fv by rw [G.out, if_pos ca, if_pos cb])
          clear ca cb
          go_wp2
          go_roundg (l.length - (i + 1))
          case measure => omega
          case rel => exact ⟨i + 1, ((z + fv) - fv), by omega, by first | rfl | go_num, by go_num, by omega, by have := hz; constructor <;> omega, Lib.hid ⟨HL.out.1, HL.out.2.1, by rw [sumN, ← HL.out.2.2, G2.out]; omega⟩⟩
        · have t1 : (p == v) = true := beq_iff_eq.2 ca
          have t2 : (q == v) = false := beq_eq_false_iff_ne.2 cb
          have G2 := Lib.hid (show lv1 l f v i = fv - 0 by rw [G.out, if_pos ca, if_neg cb])
          clear ca cb
          go_wp2
          go_roundg (l.length - (i + 1))
          case measure => omega
          case rel => exact ⟨i + 1, (z + fv), by omega, by first | rfl | go_num, by go_num, by omega, by have := hz; constructor <;> omega, Lib.hid ⟨HL.out.1, HL.out.2.1, by rw [sumN, ← HL.out.2.2, G2.out]; omega⟩⟩
      · by_cases cb : q = v
        · have t1 : (p == v) = false := beq_eq_false_iff_ne.2 ca
          have t2 : (q == v) = true := beq_iff_eq.2 cb
          have G2 := Lib.hid (show lv1 l f v i = 0 - fv by rw [G.out, if_neg ca, if_pos cb])
          clear ca cb
          go_wp2
          go_roundg (l.length - (i + 1))
          case measure => omega
          case rel => exact ⟨i + 1, (z - fv), by omega, by first | rfl | go_num, by go_num, by omega, by have := hz; constructor <;> omega, Lib.hid ⟨HL.out.1, HL.out.2.1, by rw [sumN, ← HL.out.2.2, G2.out]; omega⟩⟩
        · have t1 : (p == v) = false := beq_eq_false_iff_ne.2 ca
          have t2 : (q == v) = false := beq_eq_false_iff_ne.2 cb
          have G2 := Lib.hid (show lv1 l f v i = 0 - 0 by rw [G.out, if_neg ca, if_neg cb])
          clear ca cb
          go_wp2
          go_roundg (l.length - (i + 1))
          case measure => omega
          case rel => exact ⟨i + 1, z, by omega, by first | rfl | go_num, by go_num, by omega, by have := hz; constructor <;> omega, Lib.hid ⟨HL.out.1, HL.out.2.1, by rw [sumN, ← HL.out.2.2, G2.out]; omega⟩⟩
    · have e : i = l.length := by omega
      have d2 : ¬ (i : Int) < (l.length : Int) := by omega
      have HE := Lib.hid e
      clear e
      go_wp2
      go_ret
      exact ⟨by rw [HL.out.2.2, HE.out]; rfl, HL.out.2.1⟩
end Go.Proofs.Ytcgdloldkcmhnaa.H
end
section
namespace Go.Proofs.Ytcgdloldkcmhnaa.H
open Go Go.RowKit Go.Proofs.Ytcgdloldkcmhnaa.PrintC Go.Proofs.Ytcgdloldkcmhnaa.PrintE Go.Proofs.YtcgdloldkcmhnaaW.PrintWords Go.Proofs.YtcgdloldkcmhnaaW.PrintLast Go.Proofs.YtcgdloldkcmhnaaW.PrintMore Go.Proofs.Ytcgdloldkcmhnaa.Flow
set_option linter.unusedVariables false
set_option linter.unusedSimpArgs false
theorem best_at (M s t : Nat) (sv tv : Int) (hsv : sv = s) (htv : tv = t) (n : Int) (b : Bool) (A : Option Addr) (c : Nat) (l : List Arc) (w : World) (hn : NetOk M l) (hcap : ∀ i : Int, 0 ≤ i → i < l.length → 0 ≤ (rd_T79 l i).f2) (hs : s < M) (ht : t < M) (hst : s ≠ t) (hr : Kd.C k79 w A l.length l) :
    Calls Try.prog 38 #[.agg #[.int .i64 n, .bool b, .slice A l.length c], .int .i64 sv, .int .i64 tv] w (BestAt l M s t w) := by
  subst hsv htv
  exact best_walk M s t n b A c l w hn hcap hs ht hst hr
theorem leaves_at (M N : Nat) (v : Int) (hv : v = N) (n : Int) (b : Bool) (A : Option Addr) (c : Nat) (l : List Arc) (Af : Option Addr) (cf : Nat) (f : List Int) (V : Int) (hV : V = leaves l.length (frOf l) (toOf l) (dOf f) N) (w : World) (hn : NetOk M l) (hf : FlowOk l f) (hr : Kd.C k79 w A l.length l) (hF : Kd.C (Kd.int .i64) w Af f.length f) :
    Calls Try.prog 39 #[.agg #[.int .i64 n, .bool b, .slice A l.length c], .slice Af f.length cf, .int .i64 v] w fun e w' => e = .returned (.int .i64 V) ∧ Below w.heap.size w w' := by
  subst hv hV
  exact leaves_walk M n b A c l Af cf f N w hn hf hr hF
set_option maxHeartbeats 4000000 in
set_option maxRecDepth 100000 in
theorem rmost_walk (n h : Nat) (b : Bool) (A : Option Addr) (c : Nat) (l : List Arc) (Ap : Option Addr) (cp : Nat) (p : List Grp) (Aq : Option Addr) (cq : Nat) (q : List Grp) (V : Int) (hV : V = mostV n h b l p q) (w : World) (a : AskOk n h l p q) (hr : Kd.C kArc w A l.length l) (hp : Kd.C kGrp w Ap p.length p) (hq : Kd.C kGrp w Aq q.length q) :
    Calls Try.prog 18 #[.agg #[.int .i64 n, .bool b, .slice A l.length c], .slice Ap p.length cp, .slice Aq q.length cq, .int .i64 h] w fun e w' => e = .returned (.tuple #[.int .i64 V, .int .i64 0]) ∧ Below w.heap.size w w' := by
  have hu := Try.underlying32
  have HA := Lib.hid a
  have HR := Lib.hid hr
  have HP := Lib.hid hp
  have HQ := Lib.hid hq
  have HPL := Lib.hid a.place
  obtain ⟨N, hN⟩ : ∃ N : Nat, N = (h + 1) * n := ⟨_, rfl⟩
  obtain ⟨M, hM⟩ : ∃ M : Nat, M = N + 2 := ⟨_, rfl⟩
  obtain ⟨E, hE⟩ : ∃ E, E = evArcs l (useOf q) (keepsOf b p q) n h N (N + 1) p q := ⟨_, rfl⟩
  have HNO : Hid (NetOk M E ∧ (∀ i : Int, 0 ≤ i → i < E.length → 0 ≤ (rd_T79 E i).f2) ∧ (∀ x, x ∈ E → ArcOk M x) ∧ mostV n h b l p q = mfVal E M N (N + 1)) := Lib.hid (by
    subst hN hM hE
    exact ⟨(a.place.netOk b).1, (a.place.netOk b).2, a.place.arcs b, rfl⟩)
  have hNb : N ≤ 4000 := by rw [hN]; exact a.hn
  have HN := Lib.hid hN
  have HM := Lib.hid hM
  have HE := Lib.hid hE
  have HV := Lib.hid hV
  have e1 : (M : Int) - 2 = (N : Int) := by omega
  have e2 : (M : Int) - 1 = ((N + 1 : Nat) : Int) := by omega
  have HE1 := Lib.hid e1
  have HE2 := Lib.hid e2
  have hMb : M ≤ 5000 := by omega
  have hM2 : 2 ≤ M := by omega
  clear a hr hp hq hN hM hE hV e1 e2
  go_enter Try.func18, Try.ntmps18
  obtain ⟨w1, hw1⟩ : ∃ w1, w1 = w.alloc (.cells #[.int .i64 n, .bool b, .slice A l.length c] 32) := ⟨_, rfl⟩
  have HX : Hid (w1.heap[w.heap.size]? = some (.cells #[.int .i64 n, .bool b, .slice A l.length c] 32 (0, 0)) ∧ Below w.heap.size w w1) := Lib.hid (by rw [hw1]; exact ⟨heap_alloc_new _ _, below_alloc (Below.refl _ _) _⟩)
  go_wp2_with (first
    | (go_at_call 33; rw [← hw1]; go_loud ((with_reducible refine (rasked_walk n h b A c l Ap cp p Aq cq q _ ?s1 ?s2 ?s3 ?s4).mono ?_); (case s1 => exact HA.out); (case s2 => exact Kd.C_below HR.out HX.out.2); (case s3 => exact Kd.C_below HP.out HX.out.2); (case s4 => exact Kd.C_below HQ.out HX.out.2); rintro e w2 ⟨rfl, hb⟩; have HX2 := Lib.hid (And.intro (blk_below HX.out.1 hb) (below_step HX.out.2 hb)); have x0 : w2.cell? ⟨w.heap.size, 0, none⟩ = some (.int .i64 n) := (blk_cell HX2.out.1 0).trans rfl; have x1 : w2.cell? ⟨w.heap.size, 1, none⟩ = some (.bool b) := (blk_cell HX2.out.1 1).trans rfl; have x2 : w2.cell? ⟨w.heap.size, 2, none⟩ = some (.slice A l.length c) := (blk_cell HX2.out.1 2).trans rfl; clear hb))
    | (go_at_call 37; go_loud ((with_reducible refine (build_walk n h N (N + 1) M b A c l Ap cp p Aq cq q E _ ?s1 ?s2 ?s3 ?s4 ?s5 ?s6 ?s7 ?s8 ?s9 ?s10 ?s11 ?s12).mono ?_); (case s1 => exact HPL.out.net); (case s2 => exact Kd.C_below HR.out HX2.out.2); (case s3 => exact Kd.C_below HP.out HX2.out.2); (case s4 => exact Kd.C_below HQ.out HX2.out.2); (case s5 => exact HPL.out.gp); (case s6 => exact HPL.out.gq); (case s7 => exact HPL.out.lp); (case s8 => exact HPL.out.lq); (case s9 => exact HN.out); (case s10 => rfl); (case s11 => exact HM.out); (case s12 => exact HE.out); rintro e w3 ⟨A3, c3, rfl, hr3, hb⟩; have HX3 := Lib.hid (And.intro hr3 (below_step HX2.out.2 hb)); clear hr3 hb))
    | (go_at_call 38; go_loud ((with_reducible refine (best_at M N (N + 1) _ _ ?s1 ?s2 (M : Int) false A3 c3 E _ ?s3 ?s4 ?s5 ?s6 ?s7 ?s8).mono ?_); (case s1 => exact HE1.out); (case s2 => exact HE2.out); (case s3 => exact HNO.out.1); (case s4 => exact HNO.out.2.1); (case s5 => have := HM.out; omega); (case s6 => have := HM.out; omega); (case s7 => omega); (case s8 => exact Kd.C_below HX3.out.1 (below_alloc (Below.refl _ _) _)); rintro e w4 ⟨f, A4, c4, S, rfl, hf1, hf2, hf3, hb⟩; have HF := Lib.hid (And.intro hf1 (And.intro hf2 hf3)); have HX4 := Lib.hid (And.intro (blk_below (heap_alloc_new w3 (.cells #[.int .i64 M, .bool false, .slice A3 E.length c3] 32)) hb) (And.intro (below_step (below_alloc HX3.out.2 (.cells #[.int .i64 M, .bool false, .slice A3 E.length c3] 32)) hb) (Kd.C_below HX3.out.1 (below_step (below_alloc (Below.refl w3.heap.size w3) (.cells #[.int .i64 M, .bool false, .slice A3 E.length c3] 32)) hb)))); have y0 : w4.cell? ⟨w3.heap.size, 0, none⟩ = some (.int .i64 M) := (blk_cell HX4.out.1 0).trans rfl; have y1 : w4.cell? ⟨w3.heap.size, 1, none⟩ = some (.bool false) := (blk_cell HX4.out.1 1).trans rfl; have y2 : w4.cell? ⟨w3.heap.size, 2, none⟩ = some (.slice A3 E.length c3) := (blk_cell HX4.out.1 2).trans rfl; clear hf1 hf2 hf3 hb))
    | (go_at_call 39; go_loud ((with_reducible refine (leaves_at M N _ ?s1 (M : Int) false A3 c3 E A4 c4 f V ?s2 _ ?s3 ?s4 ?s5 ?s6).mono ?_); (case s1 => exact HE1.out); (case s2 => rw [HV.out, HNO.out.2.2.2]; exact mfVal_eq HNO.out.2.2.1 (by have := HM.out; omega) HF.out.2.1 HF.out.2.2); (case s3 => exact HNO.out.1); (case s4 => exact HF.out.2.1); (case s5 => exact HX4.out.2.2); (case s6 => exact HF.out.1); rintro e w5 ⟨rfl, hb⟩; have HX5 := Lib.hid (below_step HX4.out.2.1 hb); clear hb)))
  go_ret2
  exact ⟨rfl, HX5.out⟩
set_option maxHeartbeats 4000000 in
set_option maxRecDepth 100000 in
theorem rtotal_walk (nn : Nat) (Ap : Option Addr) (cp : Nat) (p : List Grp) (w : World) (hp : Kd.C kGrp w Ap p.length p) (hg : GrpsIn nn p) (lp : p.length ≤ 1000) :
    Calls Try.prog 15 #[.slice Ap p.length cp] w fun e w' => e = .returned (.int .i64 (totalV p)) ∧ Below w.heap.size w w' := by
  have HP := Lib.hid hp
  have HG := Lib.hid hg
  have hu2 := Try.underlying44
  clear hp hg
  go_enter Try.func15, Try.ntmps15
  go_wp2
  go_loopg [3, 4] (p.length + 1) (fun k sv iv W => ∃ i : Nat, i ≤ p.length ∧ sv = .int .i64 (totalV (p.take i)) ∧ iv = .int .i64 i ∧ k = p.length + 1 - i ∧ Hid (Below w.heap.size w W))
  case atStart => exact ⟨0, Nat.zero_le _, rfl, rfl, rfl, Lib.hid (Below.refl _ _)⟩
  case round =>
    obtain ⟨i, hi, rfl, rfl, rfl, HB⟩ := hrel
    by_cases hlt : i < p.length
    · have i0 : (0 : Int) ≤ (i : Int) := by omega
      have i1 : (i : Int) < (p.length : Int) := by omega
      obtain ⟨ad, ea, y0, y1⟩ := at_T44 (Kd.C_below HP.out HB.out) (i : Int) i0 i1
      subst ea
      rw [Int.toNat_natCast] at y0 y1
      obtain ⟨g, hg⟩ : ∃ g, g = grpAt p i := ⟨_, rfl⟩
      have hg2 : rd_T44 p (i : Int) = g := by rw [hg]; rfl
      rw [hg2] at y0 y1
      have hb := totalV_bd HG.out i (by omega)
      have hgin := (HG.out g (by rw [hg]; exact grp_mem hlt)).2
      have HGE := Lib.hid hg
      obtain ⟨T, hT⟩ : ∃ T, T = totalV (p.take i) := ⟨_, rfl⟩
      rw [← hT] at hb ⊢
      have HT := Lib.hid hT
      have t0 : 0 ≤ T := hb.1
      have t1 : T ≤ 2000000000 := by omega
      have g0 : 0 ≤ g.f1 := hgin.1
      have g1 : g.f1 ≤ 1048576 := hgin.2
      clear hg hg2 hT hb hgin
      go_wp2
      go_roundg (p.length - i)
      case measure => omega
      case rel => exact ⟨i + 1, by omega, by rw [grp_take hlt, totalV_snoc, ← HT.out, ← HGE.out], by go_num, by omega, HB⟩
    · have e : i = p.length := by omega
      subst e
      go_wp2
      go_ret
      refine ⟨?_, HB.out⟩
      rw [List.take_length]
      rfl
set_option maxHeartbeats 4000000 in
set_option maxRecDepth 100000 in
theorem rleast_walk (n h : Nat) (b : Bool) (A : Option Addr) (c : Nat) (l : List Arc) (Ap : Option Addr) (cp : Nat) (p : List Grp) (Aq : Option Addr) (cq : Nat) (q : List Grp) (Z : Int) (ok : Bool)
    (hF : (ok = true ∧ ∃ z : Nat, Z = z ∧ z ≤ h ∧ mostV n z b l p q = totalV p ∧ ∀ j, j < z → mostV n j b l p q ≠ totalV p) ∨ (ok = false ∧ Z = 0 ∧ ∀ j, j ≤ h → mostV n j b l p q ≠ totalV p))
    (w : World) (a : AskOk n h l p q) (hr : Kd.C kArc w A l.length l) (hp : Kd.C kGrp w Ap p.length p) (hq : Kd.C kGrp w Aq q.length q) :
    Calls Try.prog 12 #[.agg #[.int .i64 n, .bool b, .slice A l.length c], .slice Ap p.length cp, .slice Aq q.length cq, .int .i64 h] w fun e w' => e = .returned (.tuple #[.int .i64 Z, .bool ok, .int .i64 0]) ∧ Below w.heap.size w w' := by
  have hu := Try.underlying32
  have HF := Lib.hid hF
  have HA := Lib.hid a
  have HR := Lib.hid hr
  have HP := Lib.hid hp
  have HQ := Lib.hid hq
  have hhb := a.hh
  obtain ⟨T, hT⟩ : ∃ T, T = totalV p := ⟨_, rfl⟩
  have HT := Lib.hid hT
  clear a hr hp hq hF hT
  go_enter Try.func12, Try.ntmps12
  obtain ⟨w1, hw1⟩ : ∃ w1, w1 = w.alloc (.cells #[.int .i64 n, .bool b, .slice A l.length c] 32) := ⟨_, rfl⟩
  have HX : Hid (w1.heap[w.heap.size]? = some (.cells #[.int .i64 n, .bool b, .slice A l.length c] 32 (0, 0)) ∧ Below w.heap.size w w1) := Lib.hid (by rw [hw1]; exact ⟨heap_alloc_new _ _, below_alloc (Below.refl _ _) _⟩)
  go_wp2_with (go_at_call 33; rw [← hw1]; go_loud ((with_reducible refine (rasked_walk n h b A c l Ap cp p Aq cq q _ ?s1 ?s2 ?s3 ?s4).mono ?_); (case s1 => exact HA.out); (case s2 => exact Kd.C_below HR.out HX.out.2); (case s3 => exact Kd.C_below HP.out HX.out.2); (case s4 => exact Kd.C_below HQ.out HX.out.2); rintro e w2 ⟨rfl, hb⟩; have HX2 := Lib.hid (And.intro (blk_below HX.out.1 hb) (below_step HX.out.2 hb)); clear hb))
  go_loopg [12] (h + 2) (fun k iv W => ∃ j : Nat, j ≤ h + 1 ∧ iv = .int .i64 j ∧ k = h + 2 - j ∧ Hid ((∀ i, i < j → mostV n i b l p q ≠ totalV p) ∧ W.heap[w.heap.size]? = some (.cells #[.int .i64 n, .bool b, .slice A l.length c] 32 (0, 0)) ∧ Below w.heap.size w W))
  case atStart => exact ⟨0, Nat.zero_le _, rfl, rfl, Lib.hid ⟨fun i hi => absurd hi (Nat.not_lt_zero _), HX2.out.1, HX2.out.2⟩⟩
  case round =>
    obtain ⟨j, hj, rfl, rfl, HL⟩ := hrel
    clear HX HX2
    by_cases hlt : j ≤ h
    · have hlt2 : (j : Int) ≤ (h : Int) := by omega
      have x0 : wr.cell? ⟨w.heap.size, 0, none⟩ = some (.int .i64 n) := (blk_cell HL.out.2.1 0).trans rfl
      have x1 : wr.cell? ⟨w.heap.size, 1, none⟩ = some (.bool b) := (blk_cell HL.out.2.1 1).trans rfl
      have x2 : wr.cell? ⟨w.heap.size, 2, none⟩ = some (.slice A l.length c) := (blk_cell HL.out.2.1 2).trans rfl
      obtain ⟨V, hV⟩ : ∃ V, V = mostV n j b l p q := ⟨_, rfl⟩
      have HV := Lib.hid hV
      clear hV
      by_cases hc : V = T
      · have c1 : (V == T) = true := by simpa using hc
        have c2 : (V != T) = false := by simpa using hc
        have HC := Lib.hid hc
        clear hc
        go_wp2_with (first
          | (go_at_call 18; go_loud ((with_reducible refine (rmost_walk n j b A c l Ap cp p Aq cq q V ?s1 _ ?s2 ?s3 ?s4 ?s5).mono ?_); (case s1 => exact HV.out); (case s2 => exact HA.out.le hlt); (case s3 => exact Kd.C_below HR.out HL.out.2.2); (case s4 => exact Kd.C_below HP.out HL.out.2.2); (case s5 => exact Kd.C_below HQ.out HL.out.2.2); rintro e w3 ⟨rfl, hb⟩; have HX3 := Lib.hid (And.intro (blk_below HL.out.2.1 hb) (below_step HL.out.2.2 hb)); clear hb))
          | (go_at_call 15; go_loud ((with_reducible refine (rtotal_walk n Ap cp p _ ?s1 ?s2 ?s3).mono ?_); (case s1 => exact Kd.C_below HP.out HX3.out.2); (case s2 => exact HA.out.place.gp); (case s3 => exact HA.out.place.lp); rintro e w4 ⟨rfl, hb⟩; rw [← HT.out]; have HX4 := Lib.hid (And.intro (blk_below HX3.out.1 hb) (below_step HX3.out.2 hb)); clear hb)))
        have he : Z = (j : Int) ∧ ok = true := by
          have hm : mostV n j b l p q = totalV p := by rw [← HV.out, HC.out, HT.out]
          rcases HF.out with ⟨h1, z, h2, h3, h4, h5⟩ | ⟨h1, h2, h3⟩
          · have g1 : ¬ z < j := fun g => HL.out.1 z g h4
            have g2 : ¬ j < z := fun g => h5 j g hm
            exact ⟨by rw [h2]; omega, h1⟩
          · exact absurd hm (h3 j hlt)
        go_ret3
        exact ⟨by rw [he.1, he.2]; rfl, HX4.out.2⟩
      · have c1 : (V == T) = false := by simpa using hc
        have c2 : (V != T) = true := by simpa using hc
        have HC := Lib.hid hc
        clear hc
        go_wp2_with (first
          | (go_at_call 18; go_loud ((with_reducible refine (rmost_walk n j b A c l Ap cp p Aq cq q V ?s1 _ ?s2 ?s3 ?s4 ?s5).mono ?_); (case s1 => exact HV.out); (case s2 => exact HA.out.le hlt); (case s3 => exact Kd.C_below HR.out HL.out.2.2); (case s4 => exact Kd.C_below HP.out HL.out.2.2); (case s5 => exact Kd.C_below HQ.out HL.out.2.2); rintro e w3 ⟨rfl, hb⟩; have HX3 := Lib.hid (And.intro (blk_below HL.out.2.1 hb) (below_step HL.out.2.2 hb)); clear hb))
          | (go_at_call 15; go_loud ((with_reducible refine (rtotal_walk n Ap cp p _ ?s1 ?s2 ?s3).mono ?_); (case s1 => exact Kd.C_below HP.out HX3.out.2); (case s2 => exact HA.out.place.gp); (case s3 => exact HA.out.place.lp); rintro e w4 ⟨rfl, hb⟩; rw [← HT.out]; have HX4 := Lib.hid (And.intro (blk_below HX3.out.1 hb) (below_step HX3.out.2 hb)); clear hb)))
        go_roundg (h + 1 - j)
        case measure => omega
        case rel => exact ⟨j + 1, by omega, by go_num, by omega, Lib.hid ⟨fun i hi => by
          rcases Nat.lt_or_eq_of_le (Nat.le_of_lt_succ hi) with g | rfl
          · exact HL.out.1 i g
          · rw [← HV.out, ← HT.out]; exact HC.out, HX4.out.1, HX4.out.2⟩⟩
    · have hlt2 : ¬ (j : Int) ≤ (h : Int) := by omega
      go_wp2
      have he : Z = 0 ∧ ok = false := by
        rcases HF.out with ⟨h1, z, h2, h3, h4, h5⟩ | ⟨h1, h2, h3⟩
        · exact absurd h4 (HL.out.1 z (by omega))
        · exact ⟨h2, h1⟩
      go_ret3
      exact ⟨by rw [he.1, he.2]; rfl, HL.out.2.2⟩
end Go.Proofs.Ytcgdloldkcmhnaa.H
end
