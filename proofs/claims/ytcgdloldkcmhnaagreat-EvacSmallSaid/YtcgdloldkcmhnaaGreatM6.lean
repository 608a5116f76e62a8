/- Texts of this proof, joined; what the statement doesn't need is left out. -/
import Derived.Test.YtcgdloldkcmhnaaGreatM5
set_option maxHeartbeats 8000000
set_option maxRecDepth 100000
section
namespace Go.Proofs.YtcgdloldkcmhnaaGreat.H
open Go Go.RowKit Go.Proofs.YtcgdloldkcmhnaaGreat.PrintC Go.Proofs.YtcgdloldkcmhnaaGreat.PrintE Go.Proofs.YtcgdloldkcmhnaaGreatW.PrintWords Go.Proofs.YtcgdloldkcmhnaaGreatW.PrintLast Go.Proofs.YtcgdloldkcmhnaaGreatW.PrintMore
set_option linter.unusedVariables false
set_option linter.unusedSimpArgs false
theorem x5v : Go.Sort.SWO (Go.Proofs.ltOf y3h) where
 irrefl x := by
  unfold Go.Proofs.ltOf
  rw [decide_eq_false_iff_not, z6m]
  unfold mlt
  omega
 trans x y z h1 h2 := by
  unfold Go.Proofs.ltOf at *
  rw [decide_eq_true_eq, z6m] at *
  exact y1b h1 h2
 ntrans x y z h1 h2 := by
  unfold Go.Proofs.ltOf at *
  rw [decide_eq_false_iff_not, z6m] at *
  unfold mlt at *
  omega
theorem x1o (d : Array Mv) (j : Nat) (x : Mv) (hj : j < d.size) : Go.Sort.setMany (Go.Sort.flatK z4c 3 d) (j * 3) (z4c x) = Go.Sort.flatK z4c 3 (d.setIfInBounds j x) := by
 refine Go.Sort.ext_get! (by simp) fun t ht => ?_
 have ht' : t < d.size * 3 := by simpa using ht
 rw [Go.Sort.get_setMany _ _ _ t (by simpa using ht'), Go.Sort.get_flatK _ _ _ t ht', Go.Sort.get_flatK _ _ _ t (by simpa using ht'), show (z4c x).length = 3 from rfl]
 have e : (d.setIfInBounds j x)[t / 3]! = if t / 3 = j then x else d[t / 3]! := by
  by_cases a : t / 3 = j
  ·rw [a, if_pos rfl, Go.Sort.getElem!_set_same _ _ _ hj]
  ·rw [if_neg a]
   rw [getElem!_pos _ (t / 3) (by rw [Array.size_setIfInBounds]; omega), getElem!_pos _ (t / 3) (by omega), Array.getElem_setIfInBounds, if_neg (Ne.symm a)]
 rw [e]
 by_cases a : t / 3 = j
 ·rw [if_pos (by omega), if_pos a, show t - j * 3 = t % 3 by omega]
 ·rw [if_neg (by omega), if_neg a]
section
variable {W : World} {base g n c : Nat}
theorem y4h {xs : List Mv} (h : Kd.R kMv 76 W base (fun _ => True) (.slice (some ⟨g, 0, none⟩) n c) xs) : Go.Sort.HoldsK z4c 3 W g 0 xs.toArray := by
 intro j hj
 have hj' : j < xs.length * 3 := by simpa using hj
 have hn : n = xs.length := (Kd.R_reads' h).1
 obtain ⟨ce, hcl, hM, hcc, hfr⟩ := Kd.R_elem h z76 ((j / 3 : Nat) : Int) (by omega) (by omega)
 obtain rfl := z4v hM
 rw [Go.Sort.get_flatK _ _ _ j (by simpa using hj')]
 have e : xs.toArray[j / 3]! = xs.getD (j / 3) z76 := by
  rw [List.getD_eq_getElem?_getD, List.getElem?_eq_getElem (by omega), getElem!_pos _ _ (by simp; omega)]
  simp
 rw [e]
 simp only [Int.toNat_natCast, show k76.sz = 3 from rfl] at hcc hfr
 have hk : j = j / 3 * 3 + j % 3 := by omega
 have hr := hfr (j % 3)
 rw [← hk] at hr
 refine ⟨?_, by rw [Nat.zero_add]; exact hr⟩
 have hm : j % 3 = 0 ∨ j % 3 = 1 ∨ j % 3 = 2 := by omega
 rw [Nat.zero_add]
 rcases hm with h0 | h0 | h0
 ·have := hcc 0 _ rfl
  rw [← h0, ← hk] at this
  rw [this, h0]
  rfl
 ·have := hcc 1 _ rfl
  rw [← h0, ← hk] at this
  rw [this, h0]
  rfl
 ·have := hcc 2 _ rfl
  rw [← h0, ← hk] at this
  rw [this, h0]
  rfl
def y1c (d e : Array Mv) : Nat → Array Mv
 |0 => d
 |j + 1 => (y1c d e j).setIfInBounds j e[j]!
theorem z2p (d e : Array Mv) : ∀ j, (y1c d e j).size = d.size
 |0 => rfl
 |j + 1 => by rw [y1c, Array.size_setIfInBounds, z2p d e j]
theorem y4i (d e : Array Mv) (t : Nat) (ht : t < d.size) : ∀ j, (y1c d e j)[t]! = if t < j then e[t]! else d[t]!
 |0 => by rw [if_neg (by omega)]; rfl
 |j + 1 => by
  rw [y1c]
  by_cases a : j = t
  ·subst a
   rw [if_pos (by omega), Go.Sort.getElem!_set_same _ _ _ (by rw [z2p]; exact ht)]
  ·have h1 : ((y1c d e j).setIfInBounds j e[j]!)[t]! = (y1c d e j)[t]! := by
    rw [getElem!_pos _ t (by rw [Array.size_setIfInBounds, z2p]; exact ht), getElem!_pos _ t (by rw [z2p]; exact ht), Array.getElem_setIfInBounds, if_neg a]
   rw [h1, y4i d e t ht j]
   by_cases b : t < j
   ·rw [if_pos b, if_pos (by omega)]
   ·rw [if_neg b, if_neg (by omega)]
theorem x0y (d e : Array Mv) (h : e.size = d.size) : y1c d e d.size = e := by
 refine Array.ext (by rw [z2p, h]) fun t h1 h2 => ?_
 have := y4i d e t (by rw [z2p] at h1; exact h1) d.size
 rw [if_pos (by rw [z2p] at h1; exact h1), getElem!_pos _ t h1, getElem!_pos _ t h2] at this
 exact this
theorem x3a {w0 : World} {xs : List Mv} (h : Kd.R kMv 76 W base (fun _ => True) (.slice (some ⟨g, 0, none⟩) n c) xs) (hb : Below base w0 W) (e : Array Mv) :
  ∀ j, j ≤ xs.length → Kd.R kMv 76 (Go.Sort.putRowK z4c 3 W g 0 (y1c xs.toArray e j)) base (fun _ => True) (.slice (some ⟨g, 0, none⟩) n c) (y1c xs.toArray e j).toList ∧ Below base w0 (Go.Sort.putRowK z4c 3 W g 0 (y1c xs.toArray e j))
 |0, _ => by
  show Kd.R _ _ (Go.Sort.putRowK z4c 3 W g 0 xs.toArray) base _ _ xs ∧ Below base w0 (Go.Sort.putRowK z4c 3 W g 0 xs.toArray)
  rw [Go.Sort.putRowK_self z4c 3 W g 0 _ (y4h h)]
  exact ⟨h, hb⟩
 |j + 1, hj => by
  obtain ⟨h1, h2⟩ := x3a h hb e j (by omega)
  have hn : n = xs.length := (Kd.R_reads' h).1
  have hs : (y1c xs.toArray e j).size = xs.length := by rw [z2p]; simp
  obtain ⟨ce, hcl, hM, hcc, hfr⟩ := Kd.R_elem h1 z76 (j : Int) (by omega) (by omega)
  obtain rfl := z4v hM
  have hg := Kd.R_base h g rfl
  have s1 := (Kd.R_seg h1 (j : Int) (by omega) (by omega) (seg := z4c e[j]!) (j := 0) hcl hcc (show 3 ≤ 3 from by decide) (x' := e[j]!) (z8h _ _ _ _) (fun _ hk => hk)).1
  have ew : (Go.Sort.putRowK z4c 3 W g 0 (y1c xs.toArray e j)).setCells g (0 + j * 3) (z4c e[j]!) = Go.Sort.putRowK z4c 3 W g 0 (y1c xs.toArray e (j + 1)) := by
   unfold Go.Sort.putRowK
   rw [Go.Sort.setCells_putRow _ _ _ _ _ _ (by rw [Go.Sort.size_flatK, hs, show (z4c e[j]!).length = 3 from rfl]; omega), x1o _ _ _ (by omega)]
   rfl
  rw [Int.toNat_natCast, show k76.sz = 3 from rfl, Nat.add_zero, ← Nat.zero_add (j * 3), ew] at s1
  refine ⟨?_, ?_⟩
  ·rw [show (y1c xs.toArray e (j + 1)).toList = (y1c xs.toArray e j).toList.set j e[j]! from Array.toList_setIfInBounds ..]
   exact s1
  ·rw [← ew]
   exact ((h2.setCell hg _).setCell hg _).setCell hg _
end
theorem y6p (W : World) (os : Array Obj) : Below W.heap.size W (Go.Sort.grow W os) := ⟨rfl, rfl, rfl, by rw [Go.Sort.size_grow]; omega, fun k hk => Go.Sort.heap_grow_old W os hk⟩
theorem y2h {base : Nat} {w0 W : World} {Ao : Option Addr} {co : Nat} {xs : List Mv} (h : Kd.R kMv 76 W base (fun _ => True) (.slice Ao xs.length co) xs) (hb : Below base w0 W) (hbs : base ≤ W.heap.size) (hl : xs.length ≤ 1000000) :
  Calls Tryz.prog 74 #[.slice Ao xs.length co, .func (.func 75) #[] #[]] W fun e w' => e = .returned (.tuple #[]) ∧ ∃ ys : List Mv, ys.Perm xs ∧ ys.Pairwise (fun a b => ¬ mlt b a) ∧ Kd.R kMv 76 w' base (fun _ => True) (.slice Ao xs.length co) ys ∧ Below base w0 w' := by
 by_cases h0 : 0 < xs.length
 case neg =>
  have e0 : xs = [] := List.length_eq_zero_iff.1 (by omega)
  subst e0
  have hcon := Go.Proofs.AnyF.slices_SortFunc_none Tryz.sortMv Ao co (.func (.func 75) #[] #[]) W
  change Calls Tryz.prog 74 _ _ _ at hcon
  refine hcon.mono ?_
  rintro e w' ⟨rfl, rfl⟩
  exact ⟨rfl, [], List.Perm.refl _, List.Pairwise.nil, h, hb⟩
 obtain ⟨g, cap, e1, hbg, hgl, -⟩ := Kd.R_form h h0
 injection e1 with e1 _ e2
 subst e1
 subst e2
 have eg : ∀ args w, (callFunc 75 args).run Tryz.prog w = .ok (.enter 75 args) w := enters_of Tryz.func75 (by kernel_rfl) rfl
 have hcmp : Go.Proofs.CmpLays Tryz.prog 75 #[] z4c 3 y3h g 0 xs.toArray.size W := fun _ _ _ _ x y => y9i x y _
 have hcon := Go.Proofs.AnyQ.slices_SortFunc Tryz.sortMv 3 Tryz.isAgg76 Tryz.sizeOf76 z4c (fun _ => rfl) (fun x v hv => by simp [z4c] at hv; rcases hv with rfl | rfl | rfl <;> rfl) y3h x5v 75 #[] g 0 co xs.toArray W eg hcmp (y4h h) hgl (by simp; omega)
 change Calls Tryz.prog 74 _ _ _ at hcon
 rw [List.size_toArray] at hcon
 refine hcon.mono ?_
 rintro e w' ⟨rfl, d', m, os, hp, hs, rfl⟩
 obtain ⟨hsz, -, hpm⟩ := hp
 have hsz : d'.size = xs.length := by simpa using hsz
 have hx : ∀ a : Array Mv, a.size = xs.length → (a.extract 0 xs.length).toList = a.toList := fun a ha => by rw [← ha, Array.extract_size]
 rw [hx d' hsz, hx xs.toArray (List.size_toArray ..)] at hpm
 have h1 := Kd.R_below h (show Below W.heap.size W (Go.Sort.ahead W m) from ⟨rfl, rfl, rfl, Nat.le_refl _, fun _ _ => rfl⟩)
 have hb1 : Below base w0 (Go.Sort.ahead W m) := hb.trans (show Below base W (Go.Sort.ahead W m) from ⟨rfl, rfl, rfl, Nat.le_refl _, fun _ _ => rfl⟩)
 have hm := x3a h1 hb1 d' xs.length (Nat.le_refl _)
 have he : y1c xs.toArray d' xs.length = d' := by
  have := x0y xs.toArray d' (by rw [hsz]; simp)
  rwa [List.size_toArray] at this
 rw [he] at hm
 have hgw := y6p (Go.Sort.putRowK z4c 3 (Go.Sort.ahead W m) g 0 d') os
 refine ⟨rfl, d'.toList, hpm, ?_, Kd.R_below hm.1 hgw, hm.2.trans (hgw.mono (Nat.le_of_lt (Nat.lt_of_le_of_lt hbg (Kd.R_lt hm.1 g rfl))))⟩
 rw [List.pairwise_iff_getElem]
 intro i j hi hj hij
 have h3 := hs i j (Nat.zero_le _) hij (by rw [← hsz]; simpa using hj)
 unfold Go.Proofs.ltOf at h3
 rw [decide_eq_false_iff_not, z6m, getElem!_pos _ _ (by simpa using hj), getElem!_pos _ _ (by simpa using hi)] at h3
 simpa using h3
theorem mvApp : x5f Tryz.prog kMv 40 76 (fun x => [.int .i64 x.f0, .int .i64 x.f1, .int .i64 x.f2]) := ⟨Tryz.underlying40, ⟨_, 24, x3e, rfl, by decide, by decide⟩, by decide, z8h⟩
theorem x0x {W : World} {g base : Nat} (hb : W.heap[g]? = some (.cells #[] 76 (0, 0))) (hg : base ≤ g) : Kd.R kMv 76 W base (fun _ => True) (.slice (some ⟨g, 0, none⟩) 0 0) [] := by
 exact ⟨fun _ _ => trivial, [], ⟨rfl, .inr ⟨g, 0, #[], rfl, hg, hb, Nat.le_refl _, by decide, rfl, rfl⟩⟩, ⟨rfl, fun j p hj => by simp at hj⟩⟩
theorem x1h {l hs : List Mv} {D : DataW Unit} (h : GaI l l.length hs D) {y : Mv} (hy : y ∈ hs) :
  ∃ (t : Nat) (r : List Int), z3n l l.length y = (t : Int) :: r ∧ t < l.length ∧ (z1q l t).f0 = y.f0 ∧ (z1q l t).f1 = y.f1 := by
 obtain ⟨k, hk, e⟩ := h.mem y hy
 have hm : (k : Int) ∈ z3n l l.length y := by
  unfold z3n
  exact List.mem_map.2 ⟨k, List.mem_filter.2 ⟨List.mem_range.2 hk, by rw [e]; exact z6r _⟩, rfl⟩
 cases hg : z3n l l.length y with
 |nil =>
  rw [hg] at hm
  cases hm
 |cons a r =>
  obtain ⟨t, ht, rfl, hs⟩ := y0g (show a ∈ z3n l l.length y by rw [hg]; exact List.mem_cons_self ..)
  exact ⟨t, r, rfl, ht, (z0n.1 hs).1.symm, (z0n.1 hs).2.symm⟩
theorem y87 (l : List Mv) (y : Mv) : z3q (f2s l (z3n l l.length y)) = amt l y := by
 unfold f2s
 rw [y1n y (Nat.le_refl _), List.take_length]
 rfl
theorem x1i {l : List Mv} {y : Mv} {k : Int} (h : k ∈ z3n l l.length y) : ∃ t : Nat, t < l.length ∧ k = t := by
 obtain ⟨t, ht, e, -⟩ := y0g h
 exact ⟨t, ht, e⟩
theorem y53 (A : Option Addr) (c : Nat) (l : List Mv) (w : World) (hr : Kd.C kMv w A l.length l) (hw : ∀ x, x ∈ l → WfM x) (hi : ∀ x, x ∈ l → -9223372036854775808 ≤ x.f2 ∧ x.f2 ≤ 9223372036854775807) (hl : l.length ≤ 100000) :
  Calls Tryz.prog 40 #[.slice A l.length c] w (y90 l w) := by
 have HR := zh hr
 have HW := zh hw
 have HI := zh hi
 have hu := Tryz.underlying76
 clear hr hw hi
 go_enter Tryz.func40, Tryz.ntmps40
 go_wp2_with (go_at_call 70; go_loud ((with_reducible refine (y3d A c l _ ?s1 HW.out hl).mono ?_); (case s1 => exact Kd.C_below HR.out (y8 (Below.refl _ _) _)); rintro e w1 ⟨hb, hs, D, Ag, cg, rfl, hS, hGa, hle⟩; have HX : Hid (Kd.S z2q 68 w1 w.heap.size (fun _ => True) (.slice Ag hs.length cg) (z9b l hs) ∧ Kd.R kMv 76 w1 w.heap.size (fun _ => True) (.slice (some ⟨w.heap.size, 0, none⟩) (y0a l (hs.take 0)).length 0) (y0a l (hs.take 0)) ∧ Below w.heap.size w w1) := zh ⟨Kd.S_lower hS (by rw [z0k]; omega), Kd.R_below (x0x (heap_alloc_new w _) (Nat.le_refl _)) hb, v6 (y8 (Below.refl _ _) _) hb⟩; have HGA := zh (And.intro hGa hle); clear hb hS hGa hle))
 go_loopg [4, 13] (hs.length + 1) (fun k ov iv W => ∃ (i : Nat) (Ao : Option Addr) (co : Nat), i ≤ hs.length ∧ ov = .slice Ao (y0a l (hs.take i)).length co ∧ iv = .int .i64 i ∧ k = hs.length + 1 - i ∧ Hid (Kd.S z2q 68 W w.heap.size (fun _ => True) (.slice Ag hs.length cg) (z9b l hs) ∧ Kd.R kMv 76 W w.heap.size (fun _ => True) (.slice Ao (y0a l (hs.take i)).length co) (y0a l (hs.take i)) ∧ Below w.heap.size w W ∧ ∀ y, y ∈ hs.take i → z7b (amt l y) = true))
 case atStart => exact ⟨0, _, 0, Nat.zero_le _, rfl, rfl, rfl, zh ⟨HX.out.1, HX.out.2.1, HX.out.2.2, fun y hy => by simp at hy⟩⟩
 case round =>
  obtain ⟨i, Ao, co, hi, rfl, rfl, rfl, HL⟩ := hrel
  clear HX
  by_cases hlt : i < hs.length
  ·have hhl := HGA.out.2
   have i0 : (0 : Int) ≤ (i : Int) := by omega
   have i1 : (i : Int) < (hs.length : Int) := by omega
   obtain ⟨y, hy⟩ : ∃ y, hs[i]? = some y := ⟨_, List.getElem?_eq_getElem hlt⟩
   have hym : y ∈ hs := List.mem_of_getElem? hy
   have hrow : (z9b l hs).getD i [] = z3n l l.length y := by
    unfold z9b
    rw [List.getD_eq_getElem?_getD, List.getElem?_map, hy]
    rfl
   obtain ⟨go, Ar, cr, eg, z0, hrr⟩ := y29 HL.out.1 i (by unfold z9b; rw [List.length_map]; exact hlt)
   subst eg
   rw [hrow] at z0 hrr
   obtain ⟨t, r, hgr, ht, hf0, hf1⟩ := x1h HGA.out.1 hym
   obtain ⟨m, hm⟩ : ∃ m, (z3n l l.length y).length = m := ⟨_, rfl⟩
   have HMM : Hid ((z3n l l.length y).length = m ∧ 0 < m ∧ m ≤ 100000) := zh ⟨hm, by rw [← hm, hgr]; simp, by rw [← hm]; exact Nat.le_trans (y4v l l.length y) hl⟩
   rw [hm] at z0 hrr
   have m0 : (0 : Int) < (m : Int) := by have := HMM.out.2.1; omega
   have HRR := zh hrr
   obtain ⟨ae, eb, q0⟩ := Kd.at_int (show Kd.C (Kd.int .i64) wr Ar m (z3n l l.length y) by have h9 := (Kd.R_reads' hrr).2.2; rw [hm] at h9; exact h9) (0 : Int) (by decide) m0
   subst eb
   have q9 : rd (z3n l l.length y) (0 : Int) = (t : Int) := by rw [hgr]; rfl
   rw [q9, show (0 : Int).toNat = 0 from rfl, show ae.add 0 = ae from by cases ae; simp [Addr.add]] at q0
   have t0 : (0 : Int) ≤ (t : Int) := by omega
   have t1 : (t : Int) < (l.length : Int) := by omega
   obtain ⟨ad, ea, y0, y1, y2⟩ := z4j (Kd.C_below HR.out HL.out.2.2.1) (t : Int) t0 t1
   subst ea
   obtain ⟨X, hX⟩ : ∃ X, X = z1q l t := ⟨_, rfl⟩
   have hX2 : z3h l (t : Int) = X := by rw [hX]; rfl
   rw [Int.toNat_natCast, hX2] at y0 y1 y2
   obtain ⟨T, hT⟩ : ∃ T, T = amt l y := ⟨_, rfl⟩
   have HY : Hid (hs[i]? = some y ∧ y ∈ hs ∧ X.f0 = y.f0 ∧ X.f1 = y.f1 ∧ T = amt l y ∧ hs.take (i + 1) = hs.take i ++ [y]) := zh ⟨hy, hym, by rw [hX]; exact hf0, by rw [hX]; exact hf1, hT, by rw [List.take_add_one, hy]; rfl⟩
   have HTOT : Hid (∀ W, Below w.heap.size w W → Kd.C (Kd.int .i64) W (some ae) m (z3n l l.length y) → Calls Tryz.prog 72 #[.slice (some ad) l.length c, .slice (some ae) m cr, .func (.func 73) #[] #[]] W (z4f (f2s l (z3n l l.length y)) W)) := zh (fun W hW hC => by
    rw [← hm] at hC ⊢
    exact x0c (some ad) c l (some ae) cr _ W (Kd.C_below HR.out hW) hC (fun k hk => x1i hk) HI.out (by rw [hm]; exact HMM.out.2.1) (by rw [hm]; exact HMM.out.2.2))
   have HRC : Hid (∀ W, Below wr.heap.size wr W → Kd.C (Kd.int .i64) W (some ae) m (z3n l l.length y)) := zh (fun W hW => by
    have h9 := (Kd.R_reads' HRR.out).2.2
    rw [hm] at h9
    exact Kd.C_below h9 hW)
   have HSM : Hid (z3q (f2s l (z3n l l.length y)) = T) := zh (by rw [y87, hT])
   clear hy hym hrow hrr hgr hf0 hf1 hm hX hX2 q9 hT ht
   obtain ⟨F, hF⟩ : ∃ F, z7b T = F := ⟨_, rfl⟩
   cases F with
   |false =>
    have HF := zh hF
    clear hF
    go_wp2_with (go_at_call 72; go_loud ((with_reducible refine (HTOT.out _ ?s1 ?s2).mono ?_); (case s1 => exact y8 HL.out.2.2.1 _); (case s2 => exact HRC.out _ (y8 (Below.refl _ _) _)); intro e w2 hsum; obtain ⟨rfl, hb⟩ := z4f.no hsum HSM.out HF.out; have HBW := zh (v6 (y8 (Below.refl wr.heap.size wr) (.cells #[.int .i64 X.f0, .int .i64 X.f1, .int .i64 X.f2] 76)) hb); have HBX := zh (j5 (heap_alloc_new wr (.cells #[.int .i64 X.f0, .int .i64 X.f1, .int .i64 X.f2] 76)) hb); have b0 := (y7 HBX.out 0).trans rfl; have b1 := (y7 HBX.out 1).trans rfl; have b2 := (y7 HBX.out 2).trans rfl; have f2 := j3 HBX.out 2; clear hsum hb))
    go_ret2
    refine ⟨v6 HL.out.2.2.1 (q5 HBW.out (Nat.le_refl _)), .inl ⟨rfl, y, ?_, by rw [← HY.out.2.2.2.2.1]; exact HF.out⟩⟩
    obtain ⟨k, hk, e⟩ := HGA.out.1.mem y HY.out.2.1
    rw [e]
    exact z2z hk
   |true =>
    have HF := zh hF
    clear hF
    by_cases c0 : T = 0
    ·have d1 : (T == 0) = true := beq_iff_eq.2 c0
     have d2 : (T != 0) = false := by rw [bne, d1]; rfl
     have HC := zh c0
     clear c0
     go_wp2_with (go_at_call 72; go_loud ((with_reducible refine (HTOT.out _ ?s1 ?s2).mono ?_); (case s1 => exact y8 HL.out.2.2.1 _); (case s2 => exact HRC.out _ (y8 (Below.refl _ _) _)); intro e w2 hsum; obtain ⟨rfl, hb⟩ := z4f.yes hsum HSM.out HF.out; have HBW := zh (v6 (y8 (Below.refl wr.heap.size wr) (.cells #[.int .i64 X.f0, .int .i64 X.f1, .int .i64 X.f2] 76)) hb); have HBX := zh (j5 (heap_alloc_new wr (.cells #[.int .i64 X.f0, .int .i64 X.f1, .int .i64 X.f2] 76)) hb); have b0 := (y7 HBX.out 0).trans rfl; have b1 := (y7 HBX.out 1).trans rfl; have b2 := (y7 HBX.out 2).trans rfl; have f2 := j3 HBX.out 2; clear hsum hb))
     have HB3 : Hid (Below wr.heap.size wr (w2.setCell ⟨wr.heap.size, 2, none⟩ (.int .i64 T))) := zh (q5 HBW.out (Nat.le_refl _))
     go_roundg (hs.length - i)
     case measure => omega
     case rel => exact ⟨i + 1, Ao, co, by omega, by rw [HY.out.2.2.2.2.2, z6g, if_neg (by rw [← HY.out.2.2.2.2.1]; exact not_not_intro HC.out), List.append_nil], by go_num, by omega, zh (by
      rw [HY.out.2.2.2.2.2, z6g, if_neg (by rw [← HY.out.2.2.2.2.1]; exact not_not_intro HC.out), List.append_nil]
      refine ⟨Kd.S_below HL.out.1 HB3.out, Kd.R_below HL.out.2.1 HB3.out, v6 HL.out.2.2.1 HB3.out, fun z hz => ?_⟩
      rcases List.mem_append.1 hz with hz | hz
      ·exact HL.out.2.2.2 z hz
      ·rw [List.mem_singleton.1 hz, ← HY.out.2.2.2.2.1]
       exact HF.out)⟩
    ·have d1 : (T == 0) = false := beq_eq_false_iff_ne.2 c0
     have d2 : (T != 0) = true := by rw [bne, d1]; rfl
     have HC := zh c0
     have HLN : Hid ((y0a l (hs.take i)).length ≤ 1000000) := zh (by have h1 := z99 l (hs.take i); have h2 := HGA.out.2; have h3 : (hs.take i).length ≤ hs.length := by { rw [List.length_take]; omega }; omega)
     clear c0
     go_wp2_with (first
      |(go_at_call 72; go_loud ((with_reducible refine (HTOT.out _ ?s1 ?s2).mono ?_); (case s1 => exact y8 HL.out.2.2.1 _); (case s2 => exact HRC.out _ (y8 (Below.refl _ _) _)); intro e w2 hsum; obtain ⟨rfl, hb⟩ := z4f.yes hsum HSM.out HF.out; have HBW := zh (v6 (y8 (Below.refl wr.heap.size wr) (.cells #[.int .i64 X.f0, .int .i64 X.f1, .int .i64 X.f2] 76)) hb); have HBX := zh (j5 (heap_alloc_new wr (.cells #[.int .i64 X.f0, .int .i64 X.f1, .int .i64 X.f2] 76)) hb); have b0 := (y7 HBX.out 0).trans rfl; have b1 := (y7 HBX.out 1).trans rfl; have b2 := (y7 HBX.out 2).trans rfl; have f2 := j3 HBX.out 2; clear hsum hb))
      |((with_reducible refine r5 (N := 38) rfl ?_); go_loud ((refine gA (w0 := w) (base := w.heap.size) mvApp (y0a l (hs.take i)) (⟨X.f0, X.f1, T⟩ : Mv) ?aO ?aB ?aS ?aL ?_); (case aO => exact Kd.R_below HL.out.2.1 (q5 HBW.out (Nat.le_refl _))); (case aB => exact v6 HL.out.2.2.1 (q5 HBW.out (Nat.le_refl _))); (case aS => exact (v6 HL.out.2.2.1 (q5 HBW.out (Nat.le_refl _))).size); (case aL => exact HLN.out); intro A1 c1 w9 ho hb hg; have HFF := zh (And.intro ho (And.intro hb (Kd.S_over' (Kd.S_below HL.out.1 (q5 HBW.out (Nat.le_refl _))) (Kd.R_typed (Kd.R_below HL.out.2.1 (q5 HBW.out (Nat.le_refl _)))) (by decide) hg))); clear ho hb hg)))
     go_roundg (hs.length - i)
     case measure => omega
     case rel => exact ⟨i + 1, A1, c1, by omega, by rw [HY.out.2.2.2.2.2, z6g, if_pos (by rw [← HY.out.2.2.2.2.1]; exact HC.out), List.length_append]; rfl, by go_num, by omega, zh (by
      have e9 : (⟨X.f0, X.f1, T⟩ : Mv) = mOf l y := by
       unfold mOf
       rw [HY.out.2.2.1, HY.out.2.2.2.1, HY.out.2.2.2.2.1]
      have h9 := HFF.out.1
      rw [e9] at h9
      rw [HY.out.2.2.2.2.2, z6g, if_pos (by rw [← HY.out.2.2.2.2.1]; exact HC.out), List.length_append]
      refine ⟨HFF.out.2.2, h9, HFF.out.2.1, fun z hz => ?_⟩
      rcases List.mem_append.1 hz with hz | hz
      ·exact HL.out.2.2.2 z hz
      ·rw [List.mem_singleton.1 hz, ← HY.out.2.2.2.2.1]
       exact HF.out)⟩
  ·have e : i = hs.length := by omega
   subst e
   have hl2 := HL.out
   rw [List.take_length] at hl2 ⊢
   have HE := zh hl2
   have HLN : Hid ((y0a l hs).length ≤ 1000000) := zh (by have := z99 l hs; have := HGA.out.2; omega)
   clear hl2
   obtain ⟨m, hm⟩ : ∃ m, (y0a l hs).length = m := ⟨_, rfl⟩
   have HMM := zh hm
   have HSRT : Hid (Calls Tryz.prog 74 #[.slice Ao m co, .func (.func 75) #[] #[]] wr fun e w' => e = .returned (.tuple #[]) ∧ ∃ ys : List Mv, ys.Perm (y0a l hs) ∧ ys.Pairwise (fun a b => ¬ mlt b a) ∧ Kd.R kMv 76 w' w.heap.size (fun _ => True) (.slice Ao (y0a l hs).length co) ys ∧ Below w.heap.size w w') := zh (by
    rw [← hm]
    exact y2h HE.out.2.1 HE.out.2.2.1 HE.out.2.2.1.size HLN.out)
   rw [hm]
   clear hm
   go_wp2_with (go_at_call 74; go_loud ((with_reducible refine (HSRT.out).mono ?_); rintro e w3 ⟨rfl, ys, hp, hs1, ho, hb⟩; have HF := zh (And.intro hp (And.intro hs1 (And.intro ho hb))); clear hp hs1 ho hb))
   go_ret2
   have hlen : ys.length = m := by rw [HF.out.1.length_eq, HMM.out]
   refine ⟨HF.out.2.2.2, .inr ⟨ys, Ao, co, by rw [hlen]; rfl, ?_, y8b HGA.out.1 HE.out.2.2.2 HF.out.1 HF.out.2.1, ?_⟩⟩
   ·have h9 := HF.out.2.2.1
    rw [HMM.out, ← hlen] at h9
    exact h9
   ·rw [hlen, ← HMM.out]
    exact Nat.le_trans (z99 l hs) HGA.out.2
end Go.Proofs.YtcgdloldkcmhnaaGreat.H
end
section
namespace Go.Proofs.YtcgdloldkcmhnaaGreat.H
open Go Go.RowKit Go.Proofs.YtcgdloldkcmhnaaGreat.PrintC Go.Proofs.YtcgdloldkcmhnaaGreat.PrintE Go.Proofs.YtcgdloldkcmhnaaGreatW.PrintWords Go.Proofs.YtcgdloldkcmhnaaGreatW.PrintLast Go.Proofs.YtcgdloldkcmhnaaGreatW.PrintMore Go.Proofs.YtcgdloldkcmhnaaGreat.Flow
set_option linter.unusedVariables false
set_option linter.unusedSimpArgs false
def z5q (S : Int → Int) : List Grp → Int
 |[] => 0
 |g :: q => S g.f0 + z5q S q
theorem z62 (S : Int → Int) : ∀ a b : List Grp, z5q S (a ++ b) = z5q S a + z5q S b
 |[], b => by rw [List.nil_append, z5q]; omega
 |x :: a, b => by rw [List.cons_append, z5q, z5q, z62 S a b]; omega
theorem y5o (S : Int → Int) {q : List Grp} {i : Nat} (h : i < q.length) : z5q S (q.take (i + 1)) = z5q S (q.take i) + S (z6w q i).f0 := by
 rw [z38 h, z62, z5q, z5q]
 omega
theorem y38 {n : Nat} (S : Int → Int) : ∀ {q : List Grp}, (q.map fun g => g.f0).Nodup → (∀ g, g ∈ q → (0 ≤ g.f0 ∧ g.f0 < n) ∧ 0 ≤ g.f1) → z5q S q = z0s n (fun v => if 0 ≤ gOf (v : Int) q then S v else 0)
 |[], _, _ => by
  rw [z5q, z1s]
  intro i _
  rw [if_neg (by unfold gOf; decide)]
 |g :: q, hd, h0 => by
  rw [List.map_cons, List.nodup_cons] at hd
  have ih := y38 (n := n) S hd.2 (fun x hx => h0 x (List.mem_cons_of_mem _ hx))
  have h1 := h0 g (List.mem_cons_self ..)
  have hn : gOf g.f0 q < 0 := by
   refine (z2t g.f0 (fun x hx => (h0 x (List.mem_cons_of_mem _ hx)).2)).2 ?_
   rw [z1j, List.any_eq_false]
   intro x hx e2
   exact hd.1 (List.mem_map.2 ⟨x, hx, of_decide_eq_true e2⟩)
  have e : ∀ v : Nat, v < n → (if 0 ≤ gOf (v : Int) (g :: q) then S v else 0) = (if v = g.f0.toNat then S g.f0 else (if 0 ≤ gOf (v : Int) q then S v else 0)) := fun v _ => by
   show (if 0 ≤ (if g.f0 = (v : Int) then g.f1 else gOf (v : Int) q) then S v else 0) = _
   by_cases c : g.f0 = v
   ·rw [if_pos c, if_pos h1.2, if_pos (show v = g.f0.toNat by omega), c]
   ·rw [if_neg c, if_neg (show ¬ v = g.f0.toNat by omega)]
  rw [z1d n e, z7e _ _ _ n (by omega), ← ih, z5q, Int.toNat_of_nonneg h1.1.1, if_neg (by omega)]
  omega
theorem y7n {n h : Nat} {b : Bool} {l : List Arc} {p q : List Grp} {m : List Mv} {v z : Nat} (hp : ∀ g, g ∈ p → 0 ≤ g.f1) (hq : ∀ g, g ∈ q → 0 ≤ g.f1) (en : Bool) (he : en = decide (z = h)) :
  z78 (z1a (z0a q) (v : Int)) (if 0 ≤ gOf (v : Int) q then gOf (v : Int) q else 0) (b || (z1a (z0a p) (v : Int) || z1a (z0a q) (v : Int))) (z1a (z0a p) (v : Int) || z1a (z0a q) (v : Int)) en (z14 l p m v z) = true ↔ ¬ z6n h b l p q m v z := by
 have e1 : ∀ {r : List Grp}, (∀ g, g ∈ r → 0 ≤ g.f1) → z1a (z0a r) (v : Int) = decide (0 ≤ gOf (v : Int) r) := fun {r} hr => by
  have := z2t (v : Int) hr
  cases hc : z1a (z0a r) (v : Int) with
  |false => exact (decide_eq_false (by have := this.2 hc; omega)).symm
  |true => exact (decide_eq_true (by
    by_cases c : gOf (v : Int) r < 0
    ·rw [this.1 c] at hc; cases hc
    ·omega)).symm
 have e2 : en = decide ((z : Int) = (h : Int)) := by
  rw [he]
  exact decide_eq_decide.2 (by omega)
 unfold z6n d9
 rw [e1 hp, e1 hq, e2]
 exact x0j (fun h9 => by rw [h9, Bool.or_true])
theorem y6j (n h : Nat) (b : Bool) (A : Option Addr) (c : Nat) (l : List Arc) (Ap : Option Addr) (cp : Nat) (p : List Grp) (Aq : Option Addr) (cq : Nat) (q : List Grp) (AL : Option Addr) (cL : Nat) (L : List Mv) (w : World) (a : z3f n h l p q)
  (hBG : ∀ W, Below w.heap.size w W → Calls Tryz.prog 25 #[.agg #[.int .i64 n, .bool b, .slice A l.length c], .slice Ap p.length cp, .slice Aq q.length cq, .int .i64 h] W (z5z n b A c l Ap cp p Aq cq q 0 W))
  (hr : Kd.C z3l w A l.length l) (hp : Kd.C z1v w Ap p.length p) (hq : Kd.C z1v w Aq q.length q) (hL : Kd.C kMv w AL L.length L) (hw : ∀ x, x ∈ L → WfM x)
  (hi : ∀ x, x ∈ L → -9223372036854775808 ≤ x.f2 ∧ x.f2 ≤ 9223372036854775807) (hl : L.length ≤ 100000) :
  Calls Tryz.prog 17 #[.agg #[.int .i64 n, .bool b, .slice A l.length c], .slice Ap p.length cp, .slice Aq q.length cq, .int .i64 h, .slice AL L.length cL] w (x2v n h b l p q L w) := by
 have hu := Tryz.underlying33
 have hu3 := Tryz.underlying59
 have HBG := zh hBG
 have HR := zh hr
 have HPP := zh hp
 have HQQ := zh hq
 have HLL := zh hL
 have HWF := zh hw
 have HI := zh hi
 have HA := zh a
 have hhb := a.hh
 have HPL := zh a.place
 have n1 := a.place.net.n1
 have n0 := a.place.net.n0
 have hlp := a.place.lp
 have hlq := a.place.lq
 have HQ0 : Hid (∀ g, g ∈ q → 0 ≤ g.f1) := zh (fun g hg => (a.place.gq g hg).2.1)
 have HP0 : Hid (∀ g, g ∈ p → 0 ≤ g.f1) := zh (fun g hg => (a.place.gp g hg).2.1)
 have HTI : Hid (∀ i : Int, 0 ≤ i → i < l.length → 0 ≤ (j7 l i).f3 ∧ (j7 l i).f3 ≤ 1048576 ∧ Wf (j7 l i).f0) := zh (fun i h0 h1 => by
  have h2 := a.place.net.time i.toNat (by omega)
  have h3 := a.place.net.ends i.toNat (by omega)
  unfold z0i at h2 h3
  rw [Int.toNat_of_nonneg h0] at h2 h3
  exact ⟨h2.1, h2.2, z0o h3.1.1 (by omega)⟩)
 clear hBG hr hp hq hL hw hi a
 go_enter Tryz.func17, Tryz.ntmps17
 obtain ⟨w0, hw0⟩ : ∃ w0, w0 = (w.alloc (.cells #[.int .i64 n, .bool b, .slice A l.length c] 33)).alloc (.cells #[.int .i64 h] 3) := ⟨_, rfl⟩
 have HX0 : Hid (w0.heap[w.heap.size + 1]? = some (.cells #[.int .i64 h] 3 (0, 0)) ∧ Below w.heap.size w w0) := zh (by
  rw [hw0]
  refine ⟨?_, y8 (y8 (Below.refl _ _) _) _⟩
  have h9 := heap_alloc_new (w.alloc (.cells #[.int .i64 n, .bool b, .slice A l.length c] 33)) (.cells #[.int .i64 h] 3)
  rw [z0k] at h9
  exact h9)
 go_wp2_with (first
  |(go_at_call 25; rw [← hw0]; (with_reducible refine (HBG.out _ ?s1).mono ?_); (case s1 => exact HX0.out.2); rintro e w1 ⟨hb, (⟨h9, _⟩ | ⟨_, gp, bh, br, rfl, hge, hPl⟩)⟩; (exact absurd rfl h9); have HM1 := zh (And.intro (j5 HX0.out.1 hb) (And.intro (v6 HX0.out.2 hb) hPl)); clear hb hge hPl HX0)
  |(go_at_call 40; go_loud (obtain ⟨w2, hw2⟩ : ∃ w2, w2 = w1.alloc (.cells #[.pointer (some ⟨gp, 0, none⟩)] 64) := ⟨_, rfl⟩; have HM2 : Hid (w2.heap[w.heap.size + 1]? = some (.cells #[.int .i64 h] 3 (0, 0)) ∧ w2.heap[w1.heap.size]? = some (.cells #[.pointer (some ⟨gp, 0, none⟩)] 64 (0, 0)) ∧ Below w.heap.size w w2 ∧ PlI gp (z0f n b A l.length c Ap p.length cp Aq q.length cq bh br) bh br p.length q.length (z0a p) (z0a q) w2) := zh (by rw [hw2]; exact ⟨j9 HM1.out.1 _, heap_alloc_new _ _, y8 HM1.out.2.1 _, HM1.out.2.2.below (y8 (Below.refl _ _) _)⟩); rw [← hw2]; clear hw2 HM1; (with_reducible refine (y53 AL cL L _ ?s1 ?s2 ?s3 ?s4).mono ?_); (case s1 => exact Kd.C_below HLL.out HM2.out.2.2.1); (case s2 => exact HWF.out); (case s3 => exact HI.out); (case s4 => exact hl); rintro e w3 ⟨hb, (⟨rfl, hov⟩ | ⟨m, A1, c1, rfl, hm, hmg, hml⟩)⟩; all_goals (have HM3 := zh (And.intro (j5 HM2.out.1 hb) (And.intro (j5 HM2.out.2.1 hb) (And.intro (v6 HM2.out.2.2.1 hb) (HM2.out.2.2.2.below hb)))); clear HM2 hb))))
 ·have HOV := zh hov
  clear hov
  go_ret2
  exact ⟨HM3.out.2.2.1, .inl ⟨10, rfl, rfl, rfl, .inl (.inl ⟨rfl, HOV.out⟩)⟩⟩
 ·have HMG := zh hmg
  have HMC := zh (Kd.R_reads' hm).2.2
  have hml2 : m.length ≤ 100000 := Nat.le_trans hml hl
  clear hm hmg hml
  obtain ⟨pb, hpb⟩ : ∃ pb, pb = w1.heap.size := ⟨_, rfl⟩
  obtain ⟨hz, hhz⟩ : ∃ hz, hz = w.heap.size + 1 := ⟨_, rfl⟩
  rw [← hpb, ← hhz] at HM3 ⊢
  clear hpb hhz
  have HCT : Hid (∀ W, Below w3.heap.size w3 W → Calls Tryz.prog 41 #[.slice A1 m.length c1, .func (.func 42) #[] #[.pointer (some ⟨pb, 0, none⟩), .pointer (some ⟨hz, 0, none⟩)]] W (z7a (m.any fun x => !mok l h q x) W)) := zh (fun W hW => y0k pb hz (fun x => !mok l h q x) A1 c1 m W (Kd.C_below HMC.out hW) hml2 (fun x hx W1 hW1 => x2b gp pb hz h x (mok l h q x) W1 (j5 HM3.out.2.1 (v6 hW hW1)) (j5 HM3.out.1 (v6 hW hW1)) (fun W2 hW2 => x02 gp n b A c l Ap p.length cp Aq q.length cq bh br p.length q.length (z0a p) (z0a q) h x.f0 x.f1 x.f2 (mok l h q x) (z1i l x) rfl (x4a HPL.out.net HQ0.out) W2 (HM3.out.2.2.2.below (v6 (v6 hW hW1) hW2)) (Kd.C_below HR.out (v6 HM3.out.2.2.1 (v6 (v6 hW hW1) hW2))) HTI.out (by omega) (by omega))))
  cases hany : m.any (fun x => !mok l h q x) with
  |true =>
   have HANY := zh hany
   clear hany
   go_wp2_with (go_at_call 41; go_loud ((with_reducible refine (HCT.out _ ?s1).mono ?_); (case s1 => exact Below.refl _ _); rintro e w4 ⟨rfl, hb⟩; rw [HANY.out]; have HB4 := zh (v6 HM3.out.2.2.1 hb); clear hb))
   go_ret2
   obtain ⟨x, hx, h9⟩ := List.any_eq_true.1 HANY.out
   exact ⟨HB4.out, .inl ⟨140, rfl, rfl, rfl, .inl (.inr ⟨rfl, m, HMG.out, x, hx, by simpa using h9⟩)⟩⟩
  |false =>
   have HANY := zh hany
   have HOK : Hid (∀ x, x ∈ m → mok l h q x = true) := zh (fun x hx => by
    have := List.any_eq_false.1 hany x hx
    simpa using this)
   have HIN : Hid (∀ x, x ∈ m → y96 l x ∧ x.f1 + (z1i l x).f3 ≤ h) := zh (fun x hx => ⟨x3b hhb HPL.out.caps (HOK.out x hx), by
    have h9 := HOK.out x hx
    unfold mok at h9
    exact (of_decide_eq_true (Bool.and_eq_true_iff.1 h9).1).2.2.2.2.1⟩)
   clear hany
   go_wp2_with (first
    |(go_at_call 41; go_loud ((with_reducible refine (HCT.out _ ?s1).mono ?_); (case s1 => exact Below.refl _ _); rintro e w4 ⟨rfl, hb⟩; rw [HANY.out]; have HM4 := zh (And.intro (j5 HM3.out.1 hb) (And.intro (j5 HM3.out.2.1 hb) (And.intro (v6 HM3.out.2.2.1 hb) (And.intro (HM3.out.2.2.2.below hb) (Kd.C_below HMC.out hb))))); have x8 := (y7 HM4.out.1 0).trans rfl; have x12 := (y7 HM4.out.2.1 0).trans rfl; clear hb HM3))
    |(go_at_call 44; go_loud ((with_reducible refine (y2c gp n h b A c l Ap cp p Aq q.length cq bh br p.length q.length (z0a p) (z0a q) A1 c1 m _ ?s1 ?s2 ?s3 ?s4 HPL.out.net HPL.out.gp HA.out.grp.dp hlp hhb HIN.out hml2).mono ?_); (case s1 => exact HM4.out.2.2.2.1); (case s2 => exact Kd.C_below HR.out HM4.out.2.2.1); (case s3 => exact Kd.C_below HPP.out HM4.out.2.2.1); (case s4 => exact HM4.out.2.2.2.2); rintro e w5 ⟨g, cT, rfl, hM⟩; generalize hH1 : h + 1 = H1 at hM ⊢; have HMX := zh (And.intro hM hH1); have HM5 := zh (And.intro (j5 HM4.out.1 hM.low) (And.intro (j5 HM4.out.2.1 hM.low) (And.intro (v6 HM4.out.2.2.1 hM.low) (HM4.out.2.2.2.1.below hM.low)))); have hh1 : h < H1 := (by omega); have hh2 : H1 ≤ 1025 := (by omega); clear hM hH1 HM4 x8 x12)))
   go_loopg [10, 49] (H1 + 1) (fun k sv tv W => ∃ t : Nat, t ≤ H1 ∧ sv = .int .i64 0 ∧ tv = .int .i64 t ∧ k = H1 + 1 - t ∧ Hid (Below w5.heap.size w5 W ∧ ∀ v z : Nat, v < n → z < t → ¬ z6n h b l p q m v z))
   case atStart => exact ⟨0, Nat.zero_le _, rfl, rfl, rfl, zh ⟨Below.refl _ _, fun v z _ hz => absurd hz (Nat.not_lt_zero _)⟩⟩
   case round =>
    obtain ⟨t, ht, rfl, rfl, rfl, HL⟩ := hrel
    by_cases hlt : t < H1
    ·have i0 : (0 : Int) ≤ (t : Int) := by omega
     have i1 : (t : Int) < (H1 : Int) := by omega
     obtain ⟨gr, cr, hne, k0, -, -, -⟩ := (HMX.out.1.below HL.out.1).cell (a := t) (v := 0) hlt n0
     have HX := zh (And.intro HL.out.1 k0)
     go_wp2
     go_loopg [10, 56] (n + 1) (fun k sv vv W => ∃ v : Nat, v ≤ n ∧ sv = .int .i64 0 ∧ vv = .int .i64 v ∧ k = n + 1 - v ∧ Hid (Below w5.heap.size w5 W ∧ W.cell? ⟨g, t, none⟩ = some (.slice (some ⟨gr, 0, none⟩) n cr) ∧ ∀ v' : Nat, v' < v → ¬ z6n h b l p q m v' t))
     case atStart => exact ⟨0, Nat.zero_le _, rfl, rfl, rfl, zh ⟨HX.out.1, HX.out.2, fun v' hv => absurd hv (Nat.not_lt_zero _)⟩⟩
     case round =>
      obtain ⟨v, hv, rfl, rfl, rfl, HL2⟩ := hrel
      clear HX k0
      by_cases hvn : v < n
      ·have v0 : (0 : Int) ≤ (v : Int) := by omega
       have v1 : (v : Int) < (n : Int) := by omega
       obtain ⟨g3, c3, -, k0, k1, -, -⟩ := (HMX.out.1.below HL2.out.1).cell (a := t) (v := v) hlt hvn
       have k9 := HL2.out.2.1
       rw [k0] at k9
       injection k9 with k9
       injection k9 with k9 _ k8
       injection k9 with k9
       injection k9 with k9
       subst k9 k8
       have x8 : wr.cell? ⟨hz, 0, none⟩ = some (.int .i64 h) := (y7 (j5 HM5.out.1 HL2.out.1) 0).trans rfl
       have x12 : wr.cell? ⟨pb, 0, none⟩ = some (.pointer (some ⟨gp, 0, none⟩)) := (y7 (j5 HM5.out.2.1 HL2.out.1) 0).trans rfl
       obtain ⟨K, hK⟩ : ∃ K, K = z14 l p m v t := ⟨_, rfl⟩
       obtain ⟨en, hen⟩ : ∃ en, en = decide (t = h) := ⟨_, rfl⟩
       have he1 : ((t : Int) == (h : Int)) = en := by
        rw [hen]
        by_cases e : t = h
        ·rw [decide_eq_true e]; exact beq_iff_eq.2 (by omega)
        ·rw [decide_eq_false e]; exact beq_eq_false_iff_ne.2 (by omega)
       have hrb := y7n (n := n) (h := h) (b := b) (l := l) (m := m) (v := v) (z := t) HP0.out HQ0.out en hen
       rw [← hK] at k1 hrb
       obtain ⟨R, hR⟩ : ∃ R, R = z78 (z1a (z0a q) (v : Int)) (if 0 ≤ gOf (v : Int) q then gOf (v : Int) q else 0) (b || (z1a (z0a p) (v : Int) || z1a (z0a q) (v : Int))) (z1a (z0a p) (v : Int) || z1a (z0a q) (v : Int)) en K := ⟨_, rfl⟩
       rw [← hR] at hrb
       have HRR := zh hR
       have HRB := zh hrb
       have HK0 := zh k0
       clear hK hen hR hrb
       have HRW : Hid (∀ W, Below wr.heap.size wr W → Calls Tryz.prog 45 #[.pointer (some ⟨gp, 0, none⟩), .int .i64 v, .int .i64 K, .bool en] W fun e w' => e = .returned (.bool R) ∧ w' = W) := zh (fun W hW => y5r gp n b A l.length c Ap p.length cp Aq q.length cq bh br p.length q.length p q v K en R W (HM5.out.2.2.2.below (v6 HL2.out.1 hW)) (z0o (by omega) (by omega)) HA.out.grp.dq HQ0.out HRR.out)
       cases R with
       |true =>
        go_wp2_with (go_at_call 45; go_loud ((with_reducible refine (HRW.out _ ?s1).mono ?_); (case s1 => exact Below.refl _ _); rintro e w6 ⟨rfl, rfl⟩))
        go_roundg (n - v)
        case measure => omega
        case rel => exact ⟨v + 1, by omega, rfl, by go_num, by omega, zh ⟨HL2.out.1, HK0.out, fun v' hv' => by
         rcases Nat.lt_or_eq_of_le (Nat.le_of_lt_succ hv') with g9 | rfl
         ·exact HL2.out.2.2 v' g9
         ·exact HRB.out.1 (by first | rfl | trivial)⟩⟩
       |false =>
        go_wp2_with (go_at_call 45; go_loud ((with_reducible refine (HRW.out _ ?s1).mono ?_); (case s1 => exact Below.refl _ _); rintro e w6 ⟨rfl, rfl⟩))
        go_ret2
        refine ⟨v6 HM5.out.2.2.1 HL2.out.1, .inl ⟨141, rfl, rfl, rfl, .inr ⟨rfl, m, HMG.out, HOK.out, v, t, hvn, by have := HMX.out.2; omega, ?_⟩⟩⟩
        exact Classical.byContradiction fun h9 => by
         have := HRB.out.2 h9
         cases this
      ·have e : v = n := by omega
       subst e
       have HF : Hid (Below w5.heap.size w5 wr ∧ ∀ v' z : Nat, v' < v → z < t + 1 → ¬ z6n h b l p q m v' z) := zh ⟨HL2.out.1, fun v' z hv' hz => by
        rcases Nat.lt_or_eq_of_le (Nat.le_of_lt_succ hz) with g9 | rfl
        ·exact HL.out.2 v' z hv' g9
        ·exact HL2.out.2.2 v' hv'⟩
       clear HL2
       go_wp2
       go_roundg (H1 - t)
       case measure => omega
       case rel => exact ⟨t + 1, by omega, rfl, by go_num, by omega, HF⟩
    ·have e : H1 = t := by omega
     subst e
     have HNB : Hid (∀ v z : Nat, v < n → z ≤ h → ¬ z6n h b l p q m v z) := zh (fun v z hv hz => HL.out.2 v z hv (by have := HMX.out.2; omega))
     have HB := zh HL.out.1
     clear HL
     go_wp2
     go_loopg [10, 73] (q.length + 1) (fun k sv iv W => ∃ (i : Nat) (S : Int), i ≤ q.length ∧ sv = .int .i64 S ∧ iv = .int .i64 i ∧ k = q.length + 1 - i ∧ 0 ≤ S ∧ S ≤ (i : Int) * 1048576 ∧ Hid (S = z5q (fun v => z14 l p m v h) (q.take i) ∧ Below w5.heap.size w5 W))
     case atStart => exact ⟨0, 0, Nat.zero_le _, rfl, rfl, rfl, Int.le_refl _, by omega, zh ⟨by rw [List.take_zero]; rfl, HB.out⟩⟩
     case round =>
      obtain ⟨i, S, hi2, rfl, rfl, rfl, s0, s1, HL⟩ := hrel
      clear HB
      by_cases hlt2 : i < q.length
      ·have i0 : (0 : Int) ≤ (i : Int) := by omega
       have i1 : (i : Int) < (q.length : Int) := by omega
       obtain ⟨ad, ea, y0, y1⟩ := z2y (Kd.C_below HQQ.out (v6 HM5.out.2.2.1 HL.out.2)) (i : Int) i0 i1
       subst ea
       rw [Int.toNat_natCast] at y0 y1
       have hst := y5o (fun v => z14 l p m v h) hlt2
       obtain ⟨G, hG⟩ : ∃ G, G = z6w q i := ⟨_, rfl⟩
       have hG2 : z0q q (i : Int) = G := by rw [hG]; rfl
       rw [hG2] at y0 y1
       rw [← hG] at hst
       have hgm : G ∈ q := by rw [hG]; exact z2s hlt2
       have hgi := HPL.out.gq G hgm
       obtain ⟨u, hu0⟩ := z9h hgi.1.1
       have u1 : (u : Int) < (n : Int) := by have := hgi.1.2; omega
       have u0 : (0 : Int) ≤ (u : Int) := by omega
       obtain ⟨K, hK⟩ : ∃ K, K = z14 l p m u h := ⟨_, rfl⟩
       have hkb : 0 ≤ K ∧ K ≤ 1048576 := by
        have h9 := HNB.out u h (by omega) (Nat.le_refl _)
        unfold z6n y41 at h9
        rw [← hK] at h9
        have h8 := y1m (v := (u : Int)) (show (-1 : Int) ≤ 1048576 by decide) (fun g hg => (HPL.out.gq g hg).2.2)
        have h7 : ¬ gOf (u : Int) q < 0 := fun e => by
         have := (z2t (u : Int) HQ0.out).1 e
         rw [z1j, List.any_eq_false] at this
         exact this G hgm (decide_eq_true hu0)
        constructor
        ·exact Int.not_lt.1 fun e => h9 (.inl e)
        ·have : ¬ gOf (u : Int) q < K := fun e => h9 (.inr (.inl ⟨by omega, e⟩))
         omega
       rw [hu0] at y0 hst
       simp only [← hK] at hst
       obtain ⟨N, hN⟩ : ∃ N, N = G.f1 := ⟨_, rfl⟩
       rw [← hN] at y1
       obtain ⟨gr, cr, hne, k0, k1, -, -⟩ := (HMX.out.1.below HL.out.2).cell (a := h) (v := u) hh1 (by omega)
       rw [← hK] at k1
       have HST := zh hst
       have e6 : IntKind.i64.wrap (S + K) = S + K := IntWalk.i64_in _ (by omega)
       have h0 : (0 : Int) ≤ (h : Int) := by omega
       have h1 : (h : Int) < (H1 : Int) := by omega
       clear hG hG2 hgm hgi hu0 hK hst hN
       obtain ⟨wa, hwa⟩ : ∃ wa, wa = wr.alloc (.cells #[.int .i64 u, .int .i64 N] 59) := ⟨_, rfl⟩
       have HB : Hid (Below wr.heap.size wr wa.drew ∧ wa.drew.heap[wr.heap.size]? = some (.cells #[.int .i64 u, .int .i64 N] 59 (0, 0))) := zh (by rw [hwa]; exact ⟨q6 (y8 (Below.refl _ _) _), n7 (heap_alloc_new _ _)⟩)
       have x8 : wa.drew.cell? ⟨hz, 0, none⟩ = some (.int .i64 h) := (y7 (j5 HM5.out.1 (v6 HL.out.2 HB.out.1)) 0).trans rfl
       have q0 := j6 HB.out.1 k0
       have q1 := j6 HB.out.1 k1
       have r0 : wa.drew.cell? ⟨wr.heap.size, 0, none⟩ = some (.int .i64 u) := (y7 HB.out.2 0).trans rfl
       clear k0 k1
       go_wp2
       rw [← hwa]
       refine z1u (S := fun w' => w'.cell? ⟨hz, 0, none⟩ = some (.int .i64 h) ∧ w'.cell? ⟨g, h, none⟩ = some (.slice (some ⟨gr, 0, none⟩) n cr) ∧ w'.cell? ⟨wr.heap.size, 0, none⟩ = some (.int .i64 u) ∧ w'.cell? ⟨gr, u, none⟩ = some (.int .i64 K)) (ds := []) 11 (by kernel_rfl) rfl ⟨x8, q0, r0, q1⟩ (fun hHeld => ?_)
       clear hwa y0 y1
       generalize wa.drew = wd at HB hHeld x8 q0 q1 r0 ⊢
       obtain ⟨gb, hgb⟩ : ∃ gb, gb = wr.heap.size := ⟨_, rfl⟩
       rw [← hgb] at hHeld r0 ⊢
       clear hgb
       repeat (first | refine rP 11 ?_ | refine rT 11 hHeld ?_)
       refine z1e (by kernel_rfl) ?_
       clear hHeld x8 q0 q1 r0
       go_wp2
       go_roundg (q.length - i)
       case measure => omega
       case rel => exact ⟨i + 1, S + K, by omega, by go_num, by go_num, by omega, by omega, by omega, zh ⟨by rw [HST.out, HL.out.1], v6 HL.out.2 HB.out.1⟩⟩
      ·have e : i = q.length := by omega
       subst e
       go_wp2
       go_ret2
       refine ⟨v6 HM5.out.2.2.1 HL.out.2, .inr ⟨m, ⟨HMG.out, HOK.out, HNB.out⟩, ?_⟩⟩
       have h9 := HL.out.1
       rw [List.take_length, y38 (n := n) _ HA.out.grp.dq (fun g hg => ⟨(HPL.out.gq g hg).1, HQ0.out g hg⟩)] at h9
       rw [h9]
       rfl
theorem z36 (X Y : List z3p) (v z : Int) : z28 (X ++ Y) v z = (z28 X v z || z28 Y v z) := by
 unfold z28
 rw [List.any_append]
theorem z09 (A : Option Addr) (c : Nat) (X : List z3p) (v z : Int) (R : Bool) (w : World) (hr : Kd.C z35 w A X.length X) (hlX : X.length ≤ 1000000) (hR : R = z28 X v z) :
  Calls Tryz.prog 55 #[.slice A X.length c, .int .i64 v, .int .i64 z] w fun e w' => e = .returned (.bool R) ∧ Below w.heap.size w w' := by
 have HR := zh hr
 have HRR := zh hR
 clear hr hR
 go_enter Tryz.func55, Tryz.ntmps55
 go_wp2
 go_loopg [7] (X.length + 1) (fun k iv W => ∃ i : Nat, i ≤ X.length ∧ iv = .int .i64 i ∧ k = X.length + 1 - i ∧ Hid (Below w.heap.size w W ∧ z28 (X.take i) v z = false))
 case atStart => exact ⟨0, Nat.zero_le _, rfl, rfl, zh ⟨Below.refl _ _, by rw [List.take_zero]; rfl⟩⟩
 case round =>
  obtain ⟨i, hi, rfl, rfl, HL⟩ := hrel
  by_cases hlt : i < X.length
  ·have i0 : (0 : Int) ≤ (i : Int) := by omega
   have i1 : (i : Int) < (X.length : Int) := by omega
   obtain ⟨ad, ea, y0, y1⟩ := y3r (Kd.C_below HR.out HL.out.1) (i : Int) i0 i1
   subst ea
   rw [Int.toNat_natCast] at y0 y1
   have hst := z71 hlt
   obtain ⟨s, hs⟩ : ∃ s, s = z4s X (i : Int) := ⟨_, rfl⟩
   rw [← hs] at y0 y1 hst
   have hc : ((s.f0 == v) = false ∧ Hid (z28 [s] v z = false)) ∨ ((s.f0 == v) = true ∧ (s.f1 == z) = false ∧ Hid (z28 [s] v z = false)) ∨ ((s.f0 == v) = true ∧ (s.f1 == z) = true ∧ Hid (z28 [s] v z = true)) := by
    have e : z28 [s] v z = decide (s.f0 = v ∧ s.f1 = z) := by simp [z28]
    rw [e]
    by_cases c1 : s.f0 = v
    ·by_cases c2 : s.f1 = z
     ·exact .inr (.inr ⟨beq_iff_eq.2 c1, beq_iff_eq.2 c2, zh (decide_eq_true ⟨c1, c2⟩)⟩)
     ·exact .inr (.inl ⟨beq_iff_eq.2 c1, beq_eq_false_iff_ne.2 c2, zh (decide_eq_false (fun e => c2 e.2))⟩)
    ·exact .inl ⟨beq_eq_false_iff_ne.2 c1, zh (decide_eq_false (fun e => c1 e.1))⟩
   have HST := zh hst
   clear hs hst
   rcases hc with ⟨c1, HC⟩ | ⟨c1, c2, HC⟩ | ⟨c1, c2, HC⟩
   iterate 2
    ·go_wp2
     go_roundg (X.length - i)
     case measure => omega
     case rel => exact ⟨i + 1, by omega, by go_num, by omega, zh ⟨HL.out.1, by rw [HST.out, z36, HL.out.2, HC.out]; rfl⟩⟩
   ·go_wp2
    go_ret
    refine ⟨?_, HL.out.1⟩
    have h9 : z28 X v z = true := by
     rw [← List.take_append_drop (i + 1) X, z36, HST.out, z36, HC.out]
     simp
    rw [HRR.out, h9]
    rfl
  ·have e : i = X.length := by omega
   subst e
   have h9 := HL.out.2
   rw [List.take_length] at h9
   have H9 := zh h9
   clear h9
   go_wp2
   go_ret
   refine ⟨?_, HL.out.1⟩
   rw [HRR.out, H9.out]
   rfl
def x2r (H : Int → Int → Bool) (v : Int) (h : Nat) (w : World) (e : Ending) (w' : World) : Prop := Below w.heap.size w w' ∧ ((e = .returned (.bool true) ∧ ∀ z : Nat, z < h → H v z = true → H v ((z : Int) + 1) = true) ∨ (e = .returned (.bool false) ∧ ∃ z : Nat, z < h ∧ H v z = true ∧ H v ((z : Int) + 1) = false))
theorem y2l (A : Option Addr) (c : Nat) (X : List z3p) (v : Int) (h : Nat) (w : World) (hr : Kd.C z35 w A X.length X) (hlX : X.length ≤ 1000000) (hh : h ≤ 100000) :
  Calls Tryz.prog 53 #[.slice A X.length c, .int .i64 v, .int .i64 h] w (x2r (z28 X) v h w) := by
 have HR := zh hr
 clear hr
 go_enter Tryz.func53, Tryz.ntmps53
 go_wp2
 go_loopg [7] (h + 1) (fun k iv W => ∃ z : Nat, z ≤ h ∧ iv = .int .i64 z ∧ k = h + 1 - z ∧ Hid (Below w.heap.size w W) ∧ Hid (∀ z' : Nat, z' < z → z28 X v z' = true → z28 X v ((z' : Int) + 1) = true))
 case atStart => exact ⟨0, Nat.zero_le _, rfl, rfl, zh (Below.refl _ _), zh (fun z' hz => absurd hz (Nat.not_lt_zero _))⟩
 case round =>
  obtain ⟨z, hz, rfl, rfl, HL, HA⟩ := hrel
  by_cases hlt : z < h
  ·have hlt2 : (z : Int) < (h : Int) := by omega
   cases h1 : z28 X v z with
   |false =>
    have H1 := zh h1
    clear h1
    go_wp2_with (go_at_call 55; (with_reducible refine (z09 A c X v z false _ ?s1 ?s2 ?s3).mono ?_); (case s1 => exact Kd.C_below HR.out HL.out); (case s2 => exact hlX); (case s3 => exact H1.out.symm); rintro e w2 ⟨rfl, hb⟩; have HB := zh (v6 HL.out hb); clear hb)
    go_roundg (h - z)
    case measure => omega
    case rel => exact ⟨z + 1, by omega, by go_num, by omega, HB, zh (fun z' hz' h9 => by
     rcases Nat.lt_or_eq_of_le (Nat.le_of_lt_succ hz') with g | rfl
     ·exact HA.out z' g h9
     ·rw [H1.out] at h9
      cases h9)⟩
   |true =>
    cases h2 : z28 X v ((z : Int) + 1) with
    |true =>
     have H1 := zh h1
     have H2 := zh h2
     clear h1 h2
     go_wp2_with (first
      |(go_at_call 55; (with_reducible refine (z09 A c X v z true _ ?s1 ?s2 ?s3).mono ?_); (case s1 => exact Kd.C_below HR.out HL.out); (case s2 => exact hlX); (case s3 => exact H1.out.symm); rintro e w2 ⟨rfl, hb⟩; have HB := zh (v6 HL.out hb); clear hb)
      |(go_at_call 55; (with_reducible refine (z09 A c X v ((z : Int) + 1) true _ ?s1 ?s2 ?s3).mono ?_); (case s1 => exact Kd.C_below HR.out HB.out); (case s2 => exact hlX); (case s3 => exact H2.out.symm); rintro e w2 ⟨rfl, hb⟩; have HB3 := zh (v6 HB.out hb); clear hb))
     go_roundg (h - z)
     case measure => omega
     case rel => exact ⟨z + 1, by omega, by go_num, by omega, HB3, zh (fun z' hz' h9 => by
      rcases Nat.lt_or_eq_of_le (Nat.le_of_lt_succ hz') with g | rfl
      ·exact HA.out z' g h9
      ·exact H2.out)⟩
    |false =>
     have H1 := zh h1
     have H2 := zh h2
     clear h1 h2
     go_wp2_with (first
      |(go_at_call 55; (with_reducible refine (z09 A c X v z true _ ?s1 ?s2 ?s3).mono ?_); (case s1 => exact Kd.C_below HR.out HL.out); (case s2 => exact hlX); (case s3 => exact H1.out.symm); rintro e w2 ⟨rfl, hb⟩; have HB := zh (v6 HL.out hb); clear hb)
      |(go_at_call 55; (with_reducible refine (z09 A c X v ((z : Int) + 1) false _ ?s1 ?s2 ?s3).mono ?_); (case s1 => exact Kd.C_below HR.out HB.out); (case s2 => exact hlX); (case s3 => exact H2.out.symm); rintro e w2 ⟨rfl, hb⟩; have HB3 := zh (v6 HB.out hb); clear hb))
     go_ret
     exact ⟨HB3.out, .inr ⟨rfl, z, hlt, H1.out, H2.out⟩⟩
  ·have e : z = h := by omega
   subst e
   go_wp2
   go_ret
   exact ⟨HL.out, .inl ⟨rfl, HA.out⟩⟩
theorem y2k (n h : Nat) (bb : Bool) (A : Option Addr) (c : Nat) (l : List Arc) (AX : Option Addr) (cX : Nat) (X : List z3p) (AU : Option Addr) (cU : Nat) (U : List Bool) (use : Arc → Bool) (w : World) (hn : z4g n h l) (hc : ∀ i : Nat, i < l.length → 0 ≤ (z0i l i).f2 ∧ (z0i l i).f2 ≤ 1048576) (hh : h ≤ 1024) (hX : Kd.C z35 w AX X.length X) (hlX : X.length ≤ 1000000) (hr : Kd.C z3l w A l.length l)
  (hU : Kd.C Kd.bool w AU U.length U) (hUl : U.length = l.length) (hUU : ∀ j : Nat, j < l.length → y94 false U (j : Int) = use (z0i l j)) :
  Calls Tryz.prog 54 #[.agg #[.int .i64 n, .bool bb, .slice A l.length c], .int .i64 h, .slice AX X.length cX, .slice AU U.length cU] w (y9x (z4m use (z28 X) h l) w) := by
 have hu := Tryz.underlying33
 have hu3 := Tryz.underlying104
 have HN := zh hn
 have HCP := zh hc
 have HXX := zh hX
 have HR := zh hr
 have HUL := zh hU
 have HUU := zh hUU
 have hll := hn.ll
 have hn1 := hn.n1
 have HUE := zh hUl
 clear hn hc hX hr hU hUU hUl
 go_enter Tryz.func54, Tryz.ntmps54
 go_wp2
 obtain ⟨w1, hw1⟩ : ∃ w1, w1 = w.alloc (.cells #[.int .i64 n, .bool bb, .slice A l.length c] 33) := ⟨_, rfl⟩
 have HX : Hid (w1.heap[w.heap.size]? = some (.cells #[.int .i64 n, .bool bb, .slice A l.length c] 33 (0, 0)) ∧ Below w.heap.size w w1) := zh (by rw [hw1]; exact ⟨heap_alloc_new _ _, y8 (Below.refl _ _) _⟩)
 rw [← hw1]
 clear hw1
 go_loopg [9, 10] (l.length + 1) (fun k sv jv W => ∃ (j : Nat) (S : Int), j ≤ l.length ∧ sv = .int .i64 S ∧ jv = .int .i64 j ∧ k = l.length + 1 - j ∧ 0 ≤ S ∧ S ≤ (j : Int) * 1100000000 ∧ Hid (S = z0s j (fun j => tkA use (z28 X) h (z0i l j)) ∧ W.heap[w.heap.size]? = some (.cells #[.int .i64 n, .bool bb, .slice A l.length c] 33 (0, 0)) ∧ Below w.heap.size w W))
 case atStart => exact ⟨0, 0, Nat.zero_le _, rfl, rfl, rfl, Int.le_refl _, by omega, zh ⟨rfl, HX.out.1, HX.out.2⟩⟩
 case round =>
  obtain ⟨j, S, hj, rfl, rfl, rfl, s0, s1, HL⟩ := hrel
  clear HX
  have x2 : wr.cell? ⟨w.heap.size, 2, none⟩ = some (.slice A l.length c) := (y7 HL.out.2.1 2).trans rfl
  by_cases hjl : j < l.length
  ·have j0 : (0 : Int) ≤ (j : Int) := by omega
   have j1 : (j : Int) < (l.length : Int) := by omega
   have j2 : (j : Int) < (U.length : Int) := by have := HUE.out; omega
   obtain ⟨ad, ea, y0, y1, y2, y3⟩ := z07 (Kd.C_below HR.out HL.out.2.2) (j : Int) j0 j1
   subst ea
   rw [Int.toNat_natCast] at y0 y1 y2 y3
   obtain ⟨x, hx⟩ : ∃ x, x = z0i l j := ⟨_, rfl⟩
   have hx2 : j7 l (j : Int) = x := by rw [hx]; rfl
   rw [hx2] at y0 y1 y2 y3
   have hen := HN.out.ends j hjl
   have hti := HN.out.time j hjl
   have hcp := HCP.out j hjl
   rw [← hx] at hen hti hcp
   have f0 := hen.1.1
   have f1 := hen.1.2
   have f2 := hen.2.1
   have f3 := hen.2.2
   have t0 := hti.1
   have t1 := hti.2
   have c0 := hcp.1
   have c1 := hcp.2
   obtain ⟨u, hu9⟩ : ∃ u, use x = u := ⟨_, rfl⟩
   obtain ⟨au, eau, -⟩ := Kd.at_bool HUL.out (j : Int) j0 j2
   subst eau
   have HUJ : Hid (∀ W, Below w.heap.size w W → W.cell? (au.add j) = some (.bool u)) := zh (fun W hW => by
    obtain ⟨au2, e2, z2⟩ := Kd.at_bool (Kd.C_below HUL.out hW) (j : Int) j0 j2
    injection e2 with e2
    subst e2
    rw [Int.toNat_natCast, HUU.out j hjl, ← hx, hu9] at z2
    exact z2)
   have HUX := zh hu9
   have HXE := zh hx
   clear hx hx2 hen hti hcp hu9
   go_wp2
   obtain ⟨w4, hw4⟩ : ∃ w4, w4 = wr.alloc (.cells #[.int .i64 x.f0, .int .i64 x.f1, .int .i64 x.f2, .int .i64 x.f3] 104) := ⟨_, rfl⟩
   have HG4 : Hid (w4.heap[wr.heap.size]? = some (.cells #[.int .i64 x.f0, .int .i64 x.f1, .int .i64 x.f2, .int .i64 x.f3] 104 (0, 0)) ∧ w4.heap[w.heap.size]? = some (.cells #[.int .i64 n, .bool bb, .slice (some ad) l.length c] 33 (0, 0)) ∧ Below w.heap.size w w4) := zh (by rw [hw4]; exact ⟨heap_alloc_new _ _, j9 HL.out.2.1 _, y8 HL.out.2.2 _⟩)
   rw [← hw4]
   clear hw4 y0 y1 y2 y3 x2
   generalize wr.heap.size = g at HG4 ⊢
   go_loopg [9, 12] (h + 3) (fun k sv zv W => ∃ (z : Nat) (s : Int), z ≤ h + 1 ∧ sv = .int .i64 s ∧ zv = .int .i64 z ∧ k = h + 3 - z ∧ 0 ≤ s ∧ s ≤ S + (z : Int) * 1048576 ∧ (z = 0 ∨ (u = true ∧ (z : Int) + x.f3 ≤ (h : Int) + 1)) ∧ Hid (s = S + z0s z (tk1 (z28 X) x) ∧ W.heap[g]? = some (.cells #[.int .i64 x.f0, .int .i64 x.f1, .int .i64 x.f2, .int .i64 x.f3] 104 (0, 0)) ∧ W.heap[w.heap.size]? = some (.cells #[.int .i64 n, .bool bb, .slice (some ad) l.length c] 33 (0, 0)) ∧ Below w.heap.size w W))
   case atStart => exact ⟨0, S, by omega, rfl, rfl, rfl, s0, by omega, .inl rfl, zh ⟨by rw [z0s]; omega, HG4.out⟩⟩
   case round =>
    obtain ⟨z, s, hz, rfl, rfl, rfl, r0, r1, hzu, HZ⟩ := hrel
    have HG := zh HZ.out.2
    have y0 : wr.cell? ⟨g, 0, none⟩ = some (.int .i64 x.f0) := (y7 HG.out.1 0).trans rfl; have y1 : wr.cell? ⟨g, 1, none⟩ = some (.int .i64 x.f1) := (y7 HG.out.1 1).trans rfl; have y2 : wr.cell? ⟨g, 2, none⟩ = some (.int .i64 x.f2) := (y7 HG.out.1 2).trans rfl; have y3 : wr.cell? ⟨g, 3, none⟩ = some (.int .i64 x.f3) := (y7 HG.out.1 3).trans rfl
    have u0 : wr.cell? (au.add j) = some (.bool u) := HUJ.out _ HG.out.2.2
    have e5 : IntKind.i64.wrap ((z : Int) + x.f3) = (z : Int) + x.f3 := IntWalk.i64_in _ (by omega)
    have e6 : IntKind.i64.wrap (s + x.f2) = s + x.f2 := IntWalk.i64_in _ (by omega)
    by_cases hzt : (z : Int) + x.f3 ≤ (h : Int)
    ·cases u with
     |false =>
      have hz0 : z = 0 := by
       rcases hzu with h9 | h9
       ·exact h9
       ·cases h9.1
      clear hzu
      go_wp2
      go_roundg (l.length - j)
      case measure => omega
      case rel => exact ⟨j + 1, s, by omega, rfl, by go_num, by omega, r0, by omega, zh ⟨by
       rw [z0s, ← HL.out.1, ← HXE.out]
       unfold tkA
       rw [HUX.out, if_neg (by decide), HZ.out.1, hz0]
       rfl, HG.out.2⟩⟩
     |true =>
      have hzu2 : Hid ((z : Int) + 1 + x.f3 ≤ (h : Int) + 1) := zh (by omega)
      clear hzu
      cases ha : z28 X x.f0 z with
      |false =>
       have HA := zh ha
       clear ha
       go_wp2_with (first
        |(go_at_call 55; (with_reducible refine (z09 AX cX X x.f0 z false _ ?s1 ?s2 ?s3).mono ?_); (case s1 => exact Kd.C_below HXX.out HG.out.2.2); (case s2 => exact hlX); (case s3 => exact HA.out.symm); rintro e w2 ⟨rfl, hb⟩; have HN9 := zh (And.intro (j5 HG.out.1 hb) (And.intro (j5 HG.out.2.1 hb) (v6 HG.out.2.2 hb))); clear HG y0 y1 y2 y3 hb; have HG := HN9; clear HN9; have y0 : w2.cell? ⟨g, 0, none⟩ = some (.int .i64 x.f0) := (y7 HG.out.1 0).trans rfl; have y1 : w2.cell? ⟨g, 1, none⟩ = some (.int .i64 x.f1) := (y7 HG.out.1 1).trans rfl; have y2 : w2.cell? ⟨g, 2, none⟩ = some (.int .i64 x.f2) := (y7 HG.out.1 2).trans rfl; have y3 : w2.cell? ⟨g, 3, none⟩ = some (.int .i64 x.f3) := (y7 HG.out.1 3).trans rfl))
       go_roundg (h + 2 - z)
       case measure => omega
       case rel => exact ⟨z + 1, s, by omega, rfl, by go_num, by omega, r0, by omega, .inr ⟨by first | rfl | trivial, by have := hzu2.out; omega⟩, zh ⟨by
        rw [z0s, HZ.out.1]
        unfold tk1
        rw [if_neg (fun e => by rw [HA.out] at e; cases e.1)]
        omega, HG.out⟩⟩
      |true =>
       cases hb9 : z28 X x.f1 ((z : Int) + x.f3) with
       |true =>
        have HA := zh (And.intro ha hb9)
        clear ha hb9
        go_wp2_with (first
         |(go_at_call 55; (with_reducible refine (z09 AX cX X x.f0 z true _ ?s1 ?s2 ?s3).mono ?_); (case s1 => exact Kd.C_below HXX.out HG.out.2.2); (case s2 => exact hlX); (case s3 => exact HA.out.1.symm); rintro e w2 ⟨rfl, hb⟩; have HN9 := zh (And.intro (j5 HG.out.1 hb) (And.intro (j5 HG.out.2.1 hb) (v6 HG.out.2.2 hb))); clear HG y0 y1 y2 y3 hb; have HG := HN9; clear HN9; have y0 : w2.cell? ⟨g, 0, none⟩ = some (.int .i64 x.f0) := (y7 HG.out.1 0).trans rfl; have y1 : w2.cell? ⟨g, 1, none⟩ = some (.int .i64 x.f1) := (y7 HG.out.1 1).trans rfl; have y2 : w2.cell? ⟨g, 2, none⟩ = some (.int .i64 x.f2) := (y7 HG.out.1 2).trans rfl; have y3 : w2.cell? ⟨g, 3, none⟩ = some (.int .i64 x.f3) := (y7 HG.out.1 3).trans rfl)
         |(go_at_call 55; (with_reducible refine (z09 AX cX X x.f1 ((z : Int) + x.f3) true _ ?s1 ?s2 ?s3).mono ?_); (case s1 => exact Kd.C_below HXX.out HG.out.2.2); (case s2 => exact hlX); (case s3 => exact HA.out.2.symm); rintro e w2 ⟨rfl, hb⟩; have HN9 := zh (And.intro (j5 HG.out.1 hb) (And.intro (j5 HG.out.2.1 hb) (v6 HG.out.2.2 hb))); clear HG y0 y1 y2 y3 hb; have HG := HN9; clear HN9; have y0 : w2.cell? ⟨g, 0, none⟩ = some (.int .i64 x.f0) := (y7 HG.out.1 0).trans rfl; have y1 : w2.cell? ⟨g, 1, none⟩ = some (.int .i64 x.f1) := (y7 HG.out.1 1).trans rfl; have y2 : w2.cell? ⟨g, 2, none⟩ = some (.int .i64 x.f2) := (y7 HG.out.1 2).trans rfl; have y3 : w2.cell? ⟨g, 3, none⟩ = some (.int .i64 x.f3) := (y7 HG.out.1 3).trans rfl))
        go_roundg (h + 2 - z)
        case measure => omega
        case rel => exact ⟨z + 1, s, by omega, rfl, by go_num, by omega, r0, by omega, .inr ⟨by first | rfl | trivial, by have := hzu2.out; omega⟩, zh ⟨by
         rw [z0s, HZ.out.1]
         unfold tk1
         rw [if_neg (fun e => by rw [HA.out.2] at e; cases e.2)]
         omega, HG.out⟩⟩
       |false =>
        have HA := zh (And.intro ha hb9)
        clear ha hb9
        go_wp2_with (first
         |(go_at_call 55; (with_reducible refine (z09 AX cX X x.f0 z true _ ?s1 ?s2 ?s3).mono ?_); (case s1 => exact Kd.C_below HXX.out HG.out.2.2); (case s2 => exact hlX); (case s3 => exact HA.out.1.symm); rintro e w2 ⟨rfl, hb⟩; have HN9 := zh (And.intro (j5 HG.out.1 hb) (And.intro (j5 HG.out.2.1 hb) (v6 HG.out.2.2 hb))); clear HG y0 y1 y2 y3 hb; have HG := HN9; clear HN9; have y0 : w2.cell? ⟨g, 0, none⟩ = some (.int .i64 x.f0) := (y7 HG.out.1 0).trans rfl; have y1 : w2.cell? ⟨g, 1, none⟩ = some (.int .i64 x.f1) := (y7 HG.out.1 1).trans rfl; have y2 : w2.cell? ⟨g, 2, none⟩ = some (.int .i64 x.f2) := (y7 HG.out.1 2).trans rfl; have y3 : w2.cell? ⟨g, 3, none⟩ = some (.int .i64 x.f3) := (y7 HG.out.1 3).trans rfl)
         |(go_at_call 55; (with_reducible refine (z09 AX cX X x.f1 ((z : Int) + x.f3) false _ ?s1 ?s2 ?s3).mono ?_); (case s1 => exact Kd.C_below HXX.out HG.out.2.2); (case s2 => exact hlX); (case s3 => exact HA.out.2.symm); rintro e w2 ⟨rfl, hb⟩; have HN9 := zh (And.intro (j5 HG.out.1 hb) (And.intro (j5 HG.out.2.1 hb) (v6 HG.out.2.2 hb))); clear HG y0 y1 y2 y3 hb; have HG := HN9; clear HN9; have y0 : w2.cell? ⟨g, 0, none⟩ = some (.int .i64 x.f0) := (y7 HG.out.1 0).trans rfl; have y1 : w2.cell? ⟨g, 1, none⟩ = some (.int .i64 x.f1) := (y7 HG.out.1 1).trans rfl; have y2 : w2.cell? ⟨g, 2, none⟩ = some (.int .i64 x.f2) := (y7 HG.out.1 2).trans rfl; have y3 : w2.cell? ⟨g, 3, none⟩ = some (.int .i64 x.f3) := (y7 HG.out.1 3).trans rfl))
        go_roundg (h + 2 - z)
        case measure => omega
        case rel => exact ⟨z + 1, s + x.f2, by omega, rfl, by go_num, by omega, by omega, by omega, .inr ⟨by first | rfl | trivial, by have := hzu2.out; omega⟩, zh ⟨by
         rw [z0s, HZ.out.1]
         unfold tk1
         rw [if_pos HA.out]
         omega, HG.out⟩⟩
    ·go_wp2
     go_roundg (l.length - j)
     case measure => omega
     case rel => exact ⟨j + 1, s, by omega, rfl, by go_num, by omega, r0, by omega, zh ⟨by
      rw [z0s, ← HL.out.1, ← HXE.out]
      unfold tkA
      rw [HUX.out, HZ.out.1]
      cases u with
      |false =>
       rcases hzu with h9 | h9
       ·rw [h9, if_neg (by decide)]
        rfl
       ·cases h9.1
      |true =>
       rw [if_pos rfl, show ((h : Int) + 1 - x.f3).toNat = z by rcases hzu with h9 | h9 <;> omega], HG.out.2⟩⟩
  ·have e : j = l.length := by omega
   subst e
   go_wp2
   go_ret
   refine ⟨?_, HL.out.2.2⟩
   unfold z4m
   rw [← HL.out.1]
   rfl
theorem x1e : (Tryz.prog.info? 4).map (fun i => (i.zero, i.size, i.bytes)) = some (some (.bool false), 1, 1) := by kernel_rfl
theorem y9s : x5f Tryz.prog Kd.bool 102 4 (fun x => [.bool x]) := ⟨Tryz.underlying102, ⟨_, 1, x1e, rfl, by decide, by decide⟩, by decide, fun _ _ _ _ => rfl⟩
theorem y5m (n h x0 x1 : Int) (bb : Bool) (vl : Value) (R : Bool) (w : World) (hR : R = true ↔ z1y n h ⟨x0, x1⟩) :
  Calls Tryz.prog 80 #[.agg #[.int .i64 n, .bool bb, vl], .int .i64 h, .agg #[.int .i64 x0, .int .i64 x1]] w fun e w' => e = .returned (.bool R) ∧ Below w.heap.size w w' := by
 have hu := Tryz.underlying33
 have hu2 := Tryz.underlying110
 have hc : (¬ 0 ≤ x0 ∧ R = false) ∨ (0 ≤ x0 ∧ ¬ x0 < n ∧ R = false) ∨ (0 ≤ x0 ∧ x0 < n ∧ ¬ 0 ≤ x1 ∧ R = false) ∨ (0 ≤ x0 ∧ x0 < n ∧ 0 ≤ x1 ∧ ¬ x1 ≤ h ∧ R = false) ∨ (0 ≤ x0 ∧ x0 < n ∧ 0 ≤ x1 ∧ x1 ≤ h ∧ R = true) := by
  unfold z1y at hR
  by_cases c1 : 0 ≤ x0 ∧ 0 ≤ x1 ∧ x0 < n ∧ x1 ≤ h
  ·exact .inr (.inr (.inr (.inr ⟨c1.1, c1.2.2.1, c1.2.1, c1.2.2.2, hR.2 c1⟩)))
  ·have hf : R = false := by
    cases R with
    |false => rfl
    |true => exact absurd (hR.1 rfl) c1
   by_cases d1 : 0 ≤ x0
   ·by_cases d2 : x0 < n
    ·by_cases d3 : 0 ≤ x1
     ·exact .inr (.inr (.inr (.inl ⟨d1, d2, d3, fun e => c1 ⟨d1, d3, d2, e⟩, hf⟩)))
     ·exact .inr (.inr (.inl ⟨d1, d2, d3, hf⟩))
    ·exact .inr (.inl ⟨d1, d2, hf⟩)
   ·exact .inl ⟨d1, hf⟩
 clear hR
 rcases hc with ⟨c1, hf⟩ | ⟨c1, c2, hf⟩ | ⟨c1, c2, c3, hf⟩ | ⟨c1, c2, c3, c4, hf⟩ | ⟨c1, c2, c3, c4, hf⟩
 all_goals
  subst hf
  go_enter Tryz.func80, Tryz.ntmps80
  go_wp2
  go_ret
  exact ⟨rfl, by repeat (first | exact Below.refl _ _ | apply y8)⟩
def x5b (n h : Int) (X : List z3p) (w : World) (e : Ending) (w' : World) : Prop := Below w.heap.size w w' ∧ ((e = .returned (.int .i64 180) ∧ ∃ s, s ∈ X ∧ ¬ z1y n h s) ∨ (e = .returned (.int .i64 0) ∧ ∀ s, s ∈ X → z1y n h s))
open Classical in
theorem z93 (n h : Int) (bb : Bool) (AL : Option Addr) (kl cl : Nat) (A : Option Addr) (c : Nat) (X : List z3p) (w : World) (hr : Kd.C z35 w A X.length X) (hlX : X.length ≤ 1000000) :
  Calls Tryz.prog 52 #[.agg #[.int .i64 n, .bool bb, .slice AL kl cl], .int .i64 h, .slice A X.length c] w (x5b n h X w) := by
 have hu := Tryz.underlying33
 have hu2 := Tryz.underlying110
 have HR := zh hr
 clear hr
 go_enter Tryz.func52, Tryz.ntmps52
 obtain ⟨w1, hw1⟩ : ∃ w1, w1 = w.alloc (.cells #[.int .i64 n, .bool bb, .slice AL kl cl] 33) := ⟨_, rfl⟩
 have HX : Hid (w1.heap[w.heap.size]? = some (.cells #[.int .i64 n, .bool bb, .slice AL kl cl] 33 (0, 0)) ∧ Below w.heap.size w w1) := zh (by rw [hw1]; exact ⟨heap_alloc_new _ _, y8 (Below.refl _ _) _⟩)
 go_wp2
 rw [← hw1]
 clear hw1
 go_loopg [7] (X.length + 1) (fun k iv W => ∃ i : Nat, i ≤ X.length ∧ iv = .int .i64 i ∧ k = X.length + 1 - i ∧ Hid (W.heap[w.heap.size]? = some (.cells #[.int .i64 n, .bool bb, .slice AL kl cl] 33 (0, 0)) ∧ Below w.heap.size w W ∧ ∀ s, s ∈ X.take i → z1y n h s))
 case atStart => exact ⟨0, Nat.zero_le _, rfl, rfl, zh ⟨HX.out.1, HX.out.2, fun s hs => by simp at hs⟩⟩
 case round =>
  obtain ⟨i, hi, rfl, rfl, HL⟩ := hrel
  clear HX
  by_cases hlt : i < X.length
  ·have i0 : (0 : Int) ≤ (i : Int) := by omega
   have i1 : (i : Int) < (X.length : Int) := by omega
   obtain ⟨ad, ea, y0, y1⟩ := y3r (Kd.C_drew (Kd.C_below HR.out HL.out.2.1)) (i : Int) i0 i1
   subst ea
   rw [Int.toNat_natCast] at y0 y1
   have hst := z71 hlt
   obtain ⟨s, hs⟩ : ∃ s, s = z4s X (i : Int) := ⟨_, rfl⟩
   rw [← hs] at y0 y1 hst
   have HST := zh hst
   have HSM : Hid (s ∈ X) := zh (List.mem_of_mem_take (i := i + 1) (by rw [hst]; simp))
   clear hs hst
   obtain ⟨R, hR⟩ : ∃ R : Bool, R = decide (z1y n h ⟨s.f0, s.f1⟩) := ⟨_, rfl⟩
   have HRR : Hid (R = true ↔ z1y n h ⟨s.f0, s.f1⟩) := zh (by rw [hR]; exact decide_eq_true_iff)
   clear hR
   have z0 : wr.drew.cell? ⟨w.heap.size, 0, none⟩ = some (.int .i64 n) := (y7 (n7 HL.out.1) 0).trans rfl
   have z1 : wr.drew.cell? ⟨w.heap.size, 1, none⟩ = some (.bool bb) := (y7 (n7 HL.out.1) 1).trans rfl
   have z2 : wr.drew.cell? ⟨w.heap.size, 2, none⟩ = some (.slice AL kl cl) := (y7 (n7 HL.out.1) 2).trans rfl
   have HB := zh (And.intro (n7 HL.out.1) (q6 HL.out.2.1))
   have HO := zh HL.out.2.2
   clear HL
   go_wp2
   refine z1u (S := fun w' => w'.cell? ⟨w.heap.size, 0, none⟩ = some (.int .i64 n) ∧ w'.cell? ⟨w.heap.size, 1, none⟩ = some (.bool bb) ∧ w'.cell? ⟨w.heap.size, 2, none⟩ = some (.slice AL kl cl) ∧ w'.cell? (ad.add (i * 2)) = some (.int .i64 s.f0) ∧ w'.cell? ⟨(ad.add (i * 2)).block, (ad.add (i * 2)).off + 1, none⟩ = some (.int .i64 s.f1)) (ds := [6]) 8 (by kernel_rfl) rfl ⟨z0, z1, z2, y0, y1⟩ (fun hHeld => ?_)
   generalize wr.drew = wd at HB hHeld ⊢
   clear z0 z1 z2 y0 y1
   repeat (first | refine rP 8 ?_ | refine rT 8 hHeld ?_)
   refine sCL 6 Tryz.func80 #[.agg #[.int .i64 n, .bool bb, .slice AL kl cl], .int .i64 h, .agg #[.int .i64 s.f0, .int .i64 s.f1]] (y5m n h s.f0 s.f1 bb (.slice AL kl cl) R _ HRR.out) ?_
   rintro e w5 ⟨rfl, hb⟩
   refine ⟨_, rfl, ?_⟩
   refine sN ?_
   refine rP 8 ?_
   refine z1e (by kernel_rfl) ?_
   have HB5 := zh (And.intro (j5 HB.out.1 hb) (v6 HB.out.2 hb))
   clear hb hHeld HB
   cases R with
   |false =>
    go_wp2
    go_ret
    exact ⟨HB5.out.2, .inl ⟨rfl, s, HSM.out, fun e => by have := HRR.out.2 e; cases this⟩⟩
   |true =>
    have HSO : Hid (z1y n h s) := zh (HRR.out.1 rfl)
    clear HRR
    go_wp2
    go_roundg (X.length - i)
    case measure => omega
    case rel => exact ⟨i + 1, by omega, by go_num, by omega, zh ⟨HB5.out.1, HB5.out.2, fun s9 hs9 => by
     rw [HST.out, List.mem_append, List.mem_singleton] at hs9
     rcases hs9 with hs9 | rfl
     ·exact HO.out s9 hs9
     ·exact HSO.out⟩⟩
  ·have e : i = X.length := by omega
   subst e
   have h9 := HL.out.2
   rw [List.take_length] at h9
   have H9 := zh h9
   clear h9
   go_wp2
   go_ret
   exact ⟨H9.out.1, .inr ⟨rfl, H9.out.2⟩⟩
def z6o (l : List Arc) (q : List Grp) (j : Nat) : List Bool := (l.take j).map (z0v q)
theorem y43 {l : List Arc} {q : List Grp} {j : Nat} (hj : j < l.length) : z6o l q (j + 1) = z6o l q j ++ [z0v q (z0i l j)] := by
 have e : z0i l j = l[j] := by
  unfold z0i j7
  rw [Int.toNat_natCast, List.getD_eq_getElem?_getD, List.getElem?_eq_getElem hj]
  rfl
 unfold z6o
 rw [List.take_add_one, List.getElem?_eq_getElem hj, e]
 show ((l.take j) ++ [l[j]]).map _ = _
 rw [List.map_append]
 rfl
theorem z7q {l : List Arc} {q : List Grp} {j : Nat} (hj : j ≤ l.length) : (z6o l q j).length = j := by
 unfold z6o
 rw [List.length_map, List.length_take]
 omega
theorem x0b {l : List Arc} {q : List Grp} {j : Nat} (hj : j < l.length) : y94 false (z6o l q l.length) (j : Int) = z0v q (z0i l j) := by
 have e : z0i l j = l[j] := by
  unfold z0i j7
  rw [Int.toNat_natCast, List.getD_eq_getElem?_getD, List.getElem?_eq_getElem hj]
  rfl
 unfold y94 z6o
 rw [List.take_length, Int.toNat_natCast, List.getD_eq_getElem?_getD, List.getElem?_map, List.getElem?_eq_getElem hj, e]
 rfl
def y9z (n h : Nat) (b : Bool) (l : List Arc) (p q : List Grp) (X : List z3p) (w : World) (e : Ending) (w' : World) : Prop := Below w.heap.size w w' ∧
 ((e = .returned (.tuple #[.int .i64 0, .int .i64 180]) ∧ ∃ s, s ∈ X ∧ ¬ z1y n h s) ∨
  ((∀ s, s ∈ X → z1y n h s) ∧ ((e = .returned (.tuple #[.int .i64 0, .int .i64 181]) ∧ ∃ v z : Nat, v < n ∧ d9 b p q v = true ∧ z < h ∧ z28 X v z = true ∧ z28 X v ((z : Int) + 1) = false) ∨
  (e = .returned (.tuple #[.int .i64 (x1y h l p q (z28 X)), .int .i64 0]) ∧ ∀ v : Nat, v < n → d9 b p q v = true → ∀ z : Nat, z < h → z28 X v z = true → z28 X v ((z : Int) + 1) = true))))
theorem x36 (n h : Nat) (b : Bool) (A : Option Addr) (c : Nat) (l : List Arc) (Ap : Option Addr) (cp : Nat) (p : List Grp) (Aq : Option Addr) (cq : Nat) (q : List Grp) (AX : Option Addr) (cX : Nat) (X : List z3p) (w : World) (a : z3f n h l p q)
  (hAS : ∀ W, Below w.heap.size w W → Calls Tryz.prog 14 #[.agg #[.int .i64 n, .bool b, .slice A l.length c], .slice Ap p.length cp, .slice Aq q.length cq, .int .i64 h] W fun e w' => e = .returned (.int .i64 0) ∧ Below W.heap.size W w')
  (hr : Kd.C z3l w A l.length l) (hp : Kd.C z1v w Ap p.length p) (hq : Kd.C z1v w Aq q.length q) (hX : Kd.C z35 w AX X.length X) (hlX : X.length ≤ 1000000) :
  Calls Tryz.prog 19 #[.agg #[.int .i64 n, .bool b, .slice A l.length c], .slice Ap p.length cp, .slice Aq q.length cq, .int .i64 h, .slice AX X.length cX] w (y9z n h b l p q X w) := by
 have HAS := zh hAS
 have HR := zh hr
 have HP := zh hp
 have HQ := zh hq
 have HXX := zh hX
 have HA := zh a
 have HPO := zh a.place
 have hh := a.hh
 have hn1 := a.place.net.n1
 have hlp := a.place.lp
 have hlq := a.place.lq
 have hll := a.place.net.ll
 have HG0 : Hid ((∀ g, g ∈ p → 0 ≤ g.f1) ∧ (∀ g, g ∈ q → 0 ≤ g.f1)) := zh ⟨fun g hg => (a.place.gp g hg).2.1, fun g hg => (a.place.gq g hg).2.1⟩
 have hu := Tryz.underlying33
 have hu2 := Tryz.underlying59
 clear hr hp hq hX a hAS
 go_enter Tryz.func19, Tryz.ntmps19
 obtain ⟨w0, hw0⟩ : ∃ w0, w0 = w.alloc (.cells #[.int .i64 n, .bool b, .slice A l.length c] 33) := ⟨_, rfl⟩
 have HG : Hid (w0.heap[w.heap.size]? = some (.cells #[.int .i64 n, .bool b, .slice A l.length c] 33 (0, 0)) ∧ Below w.heap.size w w0) := zh (by rw [hw0]; exact ⟨heap_alloc_new _ _, y8 (Below.refl _ _) _⟩)
 go_wp2_with (first
  |(go_at_call 14; rw [← hw0]; go_loud ((with_reducible refine (HAS.out _ ?s1).mono ?_); (case s1 => exact HG.out.2); rintro e w2 ⟨rfl, hb⟩; have HN9 := zh (And.intro (j5 HG.out.1 hb) (v6 HG.out.2 hb)); clear HG hb; have HG := HN9; clear HN9; have x0 : w2.cell? ⟨w.heap.size, 0, none⟩ = some (.int .i64 n) := (y7 (HG.out.1) 0).trans rfl; have x1 : w2.cell? ⟨w.heap.size, 1, none⟩ = some (.bool b) := (y7 (HG.out.1) 1).trans rfl; have x2 : w2.cell? ⟨w.heap.size, 2, none⟩ = some (.slice A l.length c) := (y7 (HG.out.1) 2).trans rfl))
  |(go_at_call 52; go_loud ((with_reducible refine (z93 n h b A l.length c AX cX X _ ?s1 ?s2).mono ?_); (case s1 => exact Kd.C_below HXX.out HG.out.2); (case s2 => exact hlX); rintro e w3 ⟨hb, (⟨rfl, hbad⟩ | ⟨rfl, hok⟩)⟩; all_goals (have HN9 := zh (And.intro (j5 HG.out.1 hb) (v6 HG.out.2 hb)); clear HG x0 x1 x2 hb; have HG := HN9; clear HN9; have x0 : w3.cell? ⟨w.heap.size, 0, none⟩ = some (.int .i64 n) := (y7 (HG.out.1) 0).trans rfl; have x1 : w3.cell? ⟨w.heap.size, 1, none⟩ = some (.bool b) := (y7 (HG.out.1) 1).trans rfl; have x2 : w3.cell? ⟨w.heap.size, 2, none⟩ = some (.slice A l.length c) := (y7 (HG.out.1) 2).trans rfl))))
 ·go_ret2
  exact ⟨HG.out.2, .inl ⟨rfl, hbad⟩⟩
 have HOK := zh hok
 clear hok x0 x1 x2
 go_loopg [14] (n + 1) (fun k iv W => ∃ v : Nat, v ≤ n ∧ iv = .int .i64 v ∧ k = n + 1 - v ∧ Hid (W.heap[w.heap.size]? = some (.cells #[.int .i64 n, .bool b, .slice A l.length c] 33 (0, 0)) ∧ Below w.heap.size w W) ∧ Hid (∀ v' : Nat, v' < v → d9 b p q v' = true → ∀ z : Nat, z < h → z28 X v' z = true → z28 X v' ((z : Int) + 1) = true))
 case atStart => exact ⟨0, Nat.zero_le _, rfl, rfl, HG, zh (fun v' hv => absurd hv (Nat.not_lt_zero _))⟩
 case round =>
  obtain ⟨v, hv, rfl, rfl, HG, HKR⟩ := hrel
  have x0 : wr.cell? ⟨w.heap.size, 0, none⟩ = some (.int .i64 n) := (y7 (HG.out.1) 0).trans rfl; have x1 : wr.cell? ⟨w.heap.size, 1, none⟩ = some (.bool b) := (y7 (HG.out.1) 1).trans rfl; have x2 : wr.cell? ⟨w.heap.size, 2, none⟩ = some (.slice A l.length c) := (y7 (HG.out.1) 2).trans rfl
  by_cases hlt : v < n
  ·have hlt2 : (v : Int) < (n : Int) := by omega
   cases hkb : d9 b p q v with
   |false =>
    have HKB := zh hkb
    clear hkb
    go_wp2_with (go_at_call 30; go_loud ((with_reducible refine (z1l n b (.slice A l.length c) Ap cp p Aq cq q v _ ?s1 ?s2 ?s3 ?s4 ?s5 ?s6).mono ?_); (case s1 => exact Kd.C_below HP.out HG.out.2); (case s2 => exact Kd.C_below HQ.out HG.out.2); (case s3 => omega); (case s4 => omega); (case s5 => exact HG0.out.1); (case s6 => exact HG0.out.2); rintro e w6 ⟨rfl, hb⟩; rw [show (b || (z1a (z0a p) (v : Int) || z1a (z0a q) (v : Int))) = false from HKB.out]; have HN9 := zh (And.intro (j5 HG.out.1 hb) (v6 HG.out.2 hb)); clear HG x0 x1 x2 hb; have HG := HN9; clear HN9; have x0 : w6.cell? ⟨w.heap.size, 0, none⟩ = some (.int .i64 n) := (y7 (HG.out.1) 0).trans rfl; have x1 : w6.cell? ⟨w.heap.size, 1, none⟩ = some (.bool b) := (y7 (HG.out.1) 1).trans rfl; have x2 : w6.cell? ⟨w.heap.size, 2, none⟩ = some (.slice A l.length c) := (y7 (HG.out.1) 2).trans rfl))
    go_roundg (n - v)
    case measure => omega
    case rel => exact ⟨v + 1, by omega, by go_num, by omega, HG, zh (fun v' hv' hk' => by
     rcases Nat.lt_or_eq_of_le (Nat.le_of_lt_succ hv') with g | rfl
     ·exact HKR.out v' g hk'
     ·rw [HKB.out] at hk'
      cases hk')⟩
   |true =>
    have HKB := zh hkb
    clear hkb
    go_wp2_with (first
     |(go_at_call 30; go_loud ((with_reducible refine (z1l n b (.slice A l.length c) Ap cp p Aq cq q v _ ?s1 ?s2 ?s3 ?s4 ?s5 ?s6).mono ?_); (case s1 => exact Kd.C_below HP.out HG.out.2); (case s2 => exact Kd.C_below HQ.out HG.out.2); (case s3 => omega); (case s4 => omega); (case s5 => exact HG0.out.1); (case s6 => exact HG0.out.2); rintro e w6 ⟨rfl, hb⟩; rw [show (b || (z1a (z0a p) (v : Int) || z1a (z0a q) (v : Int))) = true from HKB.out]; have HN9 := zh (And.intro (j5 HG.out.1 hb) (v6 HG.out.2 hb)); clear HG x0 x1 x2 hb; have HG := HN9; clear HN9; have x0 : w6.cell? ⟨w.heap.size, 0, none⟩ = some (.int .i64 n) := (y7 (HG.out.1) 0).trans rfl; have x1 : w6.cell? ⟨w.heap.size, 1, none⟩ = some (.bool b) := (y7 (HG.out.1) 1).trans rfl; have x2 : w6.cell? ⟨w.heap.size, 2, none⟩ = some (.slice A l.length c) := (y7 (HG.out.1) 2).trans rfl))
     |(go_at_call 53; go_loud ((with_reducible refine (y2l AX cX X v h _ ?s1 ?s2 ?s3).mono ?_); (case s1 => exact Kd.C_below HXX.out HG.out.2); (case s2 => exact hlX); (case s3 => omega); rintro e w5 ⟨hb, (⟨rfl, hris⟩ | ⟨rfl, hris⟩)⟩; all_goals (have HRI := zh hris; clear hris; have HN9 := zh (And.intro (j5 HG.out.1 hb) (v6 HG.out.2 hb)); clear HG x0 x1 x2 hb; have HG := HN9; clear HN9; have x0 : w5.cell? ⟨w.heap.size, 0, none⟩ = some (.int .i64 n) := (y7 (HG.out.1) 0).trans rfl; have x1 : w5.cell? ⟨w.heap.size, 1, none⟩ = some (.bool b) := (y7 (HG.out.1) 1).trans rfl; have x2 : w5.cell? ⟨w.heap.size, 2, none⟩ = some (.slice A l.length c) := (y7 (HG.out.1) 2).trans rfl))))
    ·go_roundg (n - v)
     case measure => omega
     case rel => exact ⟨v + 1, by omega, by go_num, by omega, HG, zh (fun v' hv' hk' => by
      rcases Nat.lt_or_eq_of_le (Nat.le_of_lt_succ hv') with g | rfl
      ·exact HKR.out v' g hk'
      ·exact HRI.out)⟩
    ·go_ret2
     obtain ⟨z, hz, hz1, hz2⟩ := HRI.out
     exact ⟨HG.out.2, .inr ⟨HOK.out, .inl ⟨rfl, v, z, hlt, HKB.out, hz, hz1, hz2⟩⟩⟩
  ·have e : v = n := by omega
   subst e
   go_wp2
   obtain ⟨W2, hW2⟩ : ∃ W2, W2 = wr := ⟨_, rfl⟩
   rw [← hW2] at HG x0 x1 x2 ⊢
   clear hW2
   go_loopg [15, 16] (l.length + 1) (fun k uv jv W => ∃ (j : Nat) (Au : Option Addr) (cu : Nat), j ≤ l.length ∧ uv = .slice Au (z6o l q j).length cu ∧ jv = .int .i64 j ∧ k = l.length + 1 - j ∧ Hid (Kd.R Kd.bool 4 W W2.heap.size (fun _ => True) (.slice Au (z6o l q j).length cu) (z6o l q j) ∧ Below W2.heap.size W2 W))
   case atStart => exact ⟨0, none, 0, Nat.zero_le _, rfl, rfl, rfl, zh ⟨Kd.R_nil _ _ _ _ _, Below.refl _ _⟩⟩
   case round =>
    obtain ⟨j, Au, cu, hj, rfl, rfl, rfl, HU⟩ := hrel
    have HG2 := zh (And.intro (j5 HG.out.1 HU.out.2) (v6 HG.out.2 HU.out.2))
    clear x0 x1 x2
    have x0 : wr.cell? ⟨w.heap.size, 0, none⟩ = some (.int .i64 v) := (y7 (HG2.out.1) 0).trans rfl; have x1 : wr.cell? ⟨w.heap.size, 1, none⟩ = some (.bool b) := (y7 (HG2.out.1) 1).trans rfl; have x2 : wr.cell? ⟨w.heap.size, 2, none⟩ = some (.slice A l.length c) := (y7 (HG2.out.1) 2).trans rfl
    by_cases hjl : j < l.length
    ·have j0 : (0 : Int) ≤ (j : Int) := by omega
     have j1 : (j : Int) < (l.length : Int) := by omega
     obtain ⟨ad, ea, y0, -⟩ := z07 (Kd.C_below HR.out HG2.out.2) (j : Int) j0 j1
     subst ea
     rw [Int.toNat_natCast] at y0
     obtain ⟨x, hx⟩ : ∃ x, x = z0i l j := ⟨_, rfl⟩
     have hx2 : j7 l (j : Int) = x := by rw [hx]; rfl
     rw [hx2] at y0
     have hnx := y43 (q := q) hjl
     rw [← hx] at hnx
     have HNX := zh hnx
     clear hx hx2 hnx
     obtain ⟨G, hG⟩ : ∃ G, G = gOf x.f0 q := ⟨_, rfl⟩
     have hgu : (G < 0 ∧ Hid (z0v q x = true)) ∨ (decide (G < 0) = false ∧ Hid (z0v q x = false)) := by
      have h8 := z2t x.f0 HG0.out.2
      rw [← hG] at h8
      unfold z0v
      by_cases g : G < 0
      ·exact .inl ⟨g, zh (by rw [h8.1 g]; rfl)⟩
      ·refine .inr ⟨decide_eq_false g, zh ?_⟩
       cases h7 : z1a (z0a q) x.f0 with
       |true => rfl
       |false => exact absurd (h8.2 h7) g
     have HGE := zh hG
     clear hG
     rcases hgu with ⟨g1, HUX⟩ | ⟨g1, HUX⟩
     ·go_wp2_with (first
       |(go_at_call 24; (with_reducible refine (z0y q.length Aq cq q _ _ ?s1 ?s2 ?s3).mono ?_); (case s1 => rfl); (case s2 => exact Kd.C_below HQ.out HG2.out.2); (case s3 => omega); rintro e w7 ⟨rfl, hb⟩; rw [← HGE.out]; have HO7 := zh (And.intro (Kd.R_below HU.out.1 hb) (v6 HU.out.2 hb)); clear hb)
       |((with_reducible refine r5 (N := 71) rfl ?_); (refine gA (w0 := W2) (base := W2.heap.size) y9s (z6o l q j) true ?aO ?aB ?aS ?aL ?_); (case aO => exact HO7.out.1); (case aB => exact HO7.out.2); (case aS => exact HO7.out.2.size); (case aL => have := z7q (q := q) hj; omega); go_loud (intro A1 c1 w9 ho hb hg; have HO9 := zh (And.intro ho hb); clear ho hb hg)))
      go_roundg (l.length - j)
      case measure => omega
      case rel => exact ⟨j + 1, A1, c1, by omega, by rw [HNX.out, List.length_append]; rfl, by go_num, by omega, zh ⟨by rw [HNX.out, HUX.out, List.length_append]; exact HO9.out.1, HO9.out.2⟩⟩
     ·go_wp2_with (first
       |(go_at_call 24; (with_reducible refine (z0y q.length Aq cq q _ _ ?s1 ?s2 ?s3).mono ?_); (case s1 => rfl); (case s2 => exact Kd.C_below HQ.out HG2.out.2); (case s3 => omega); rintro e w7 ⟨rfl, hb⟩; rw [← HGE.out]; have HO7 := zh (And.intro (Kd.R_below HU.out.1 hb) (v6 HU.out.2 hb)); clear hb)
       |((with_reducible refine r5 (N := 71) rfl ?_); (refine gA (w0 := W2) (base := W2.heap.size) y9s (z6o l q j) false ?aO ?aB ?aS ?aL ?_); (case aO => exact HO7.out.1); (case aB => exact HO7.out.2); (case aS => exact HO7.out.2.size); (case aL => have := z7q (q := q) hj; omega); go_loud (intro A1 c1 w9 ho hb hg; have HO9 := zh (And.intro ho hb); clear ho hb hg)))
      go_roundg (l.length - j)
      case measure => omega
      case rel => exact ⟨j + 1, A1, c1, by omega, by rw [HNX.out, List.length_append]; rfl, by go_num, by omega, zh ⟨by rw [HNX.out, HUX.out, List.length_append]; exact HO9.out.1, HO9.out.2⟩⟩
    ·have e : j = l.length := by omega
     subst e
     obtain ⟨T, hT⟩ : ∃ T, T = z4m (z0v q) (z28 X) h l := ⟨_, rfl⟩
     have hTb : 0 ≤ T ∧ T ≤ 11000000000000 := by
      have := z9z (use := z0v q) (H := z28 X) HPO.out.net hh HPO.out.caps l.length (Nat.le_refl _)
      unfold z4m at hT
      rw [← hT] at this
      omega
     have HT := zh hT
     clear hT
     go_wp2_with (go_at_call 54; go_loud ((with_reducible refine (y2k v h b A c l AX cX X Au cu (z6o l q l.length) (z0v q) _ ?s1 ?s2 ?s3 ?s4 ?s5 ?s6 ?s7 ?s8 ?s9).mono ?_); (case s1 => exact HPO.out.net); (case s2 => exact HPO.out.caps); (case s3 => exact hh); (case s4 => exact Kd.C_below HXX.out HG2.out.2); (case s5 => exact hlX); (case s6 => exact Kd.C_below HR.out HG2.out.2); (case s7 => exact (Kd.R_reads' HU.out.1).2.2); (case s8 => exact z7q (Nat.le_refl _)); (case s9 => exact fun j hj => x0b hj); rintro e w6 ⟨rfl, hb⟩; rw [← HT.out]; have HB6 := zh (v6 HG2.out.2 hb); clear HG2 HU x0 x1 x2 hb))
     go_loopg [17, 18] (p.length + 1) (fun k sv iv W => ∃ (i : Nat) (S : Int), i ≤ p.length ∧ sv = .int .i64 S ∧ iv = .int .i64 i ∧ k = p.length + 1 - i ∧ 0 ≤ S ∧ S ≤ 11000000000000 + (i : Int) * 1048576 ∧ Hid (S = T + gS (fun g => !z28 X g.f0 0) (p.take i) ∧ Below w.heap.size w W))
     case atStart => exact ⟨0, T, Nat.zero_le _, rfl, rfl, rfl, hTb.1, by omega, zh ⟨by rw [List.take_zero, gS]; omega, HB6.out⟩⟩
     case round =>
      obtain ⟨i, S, hi, rfl, rfl, rfl, s0, s1, HL⟩ := hrel
      clear HB6
      by_cases hlt : i < p.length
      ·have i0 : (0 : Int) ≤ (i : Int) := by omega
       have i1 : (i : Int) < (p.length : Int) := by omega
       obtain ⟨ad, ea, y0, y1⟩ := z2y (Kd.C_below HP.out HL.out.2) (i : Int) i0 i1
       subst ea
       rw [Int.toNat_natCast] at y0 y1
       have hgt := z8n (fun g => !z28 X g.f0 0) hlt
       obtain ⟨G, hG⟩ : ∃ G, G = z0q p (i : Int) := ⟨_, rfl⟩
       have hgi := HPO.out.gp G (by rw [hG]; exact z2s hlt)
       rw [← hG] at y0 y1 hgt
       have g0 := hgi.1.1
       have g1 := hgi.1.2
       have g2 := hgi.2.1
       have g3 := hgi.2.2
       have HGT := zh hgt
       have CG : Hid (∀ W, Below w.heap.size w W → W.cell? ⟨(ad.add (i * 2)).block, (ad.add (i * 2)).off + 1, none⟩ = some (.int .i64 G.f1)) := zh (fun W hW => by
        obtain ⟨ad2, e2, z0, z1⟩ := z2y (Kd.C_below HP.out hW) (i : Int) i0 i1
        injection e2 with e2
        subst e2
        rw [Int.toNat_natCast, ← hG] at z1
        exact z1)
       clear hG hgi hgt
       have e6 : IntKind.i64.wrap (S + G.f1) = S + G.f1 := IntWalk.i64_in _ (by omega)
       obtain ⟨R, hR⟩ : ∃ R, z28 X G.f0 0 = R := ⟨_, rfl⟩
       have HRR := zh hR
       clear hR
       have HH : Hid (∀ W, Below w.heap.size w W → Calls Tryz.prog 55 #[.slice AX X.length cX, .int .i64 G.f0, .int .i64 0] W fun e w' => e = .returned (.bool R) ∧ Below W.heap.size W w') := zh (fun W hW => z09 AX cX X G.f0 0 R W (Kd.C_below HXX.out hW) hlX HRR.out.symm)
       cases R with
       |true =>
        go_wp2_with (go_at_call 55; refine (HH.out _ ?s1).mono ?_; (case s1 => exact HL.out.2); rintro e w7 ⟨rfl, hb⟩; have HB7 := zh (v6 HL.out.2 hb); clear y0 y1; have y1 := CG.out _ HB7.out; clear hb)
        go_roundg (p.length - i)
        case measure => omega
        case rel => exact ⟨i + 1, S, by omega, rfl, by go_num, by omega, s0, by omega, zh ⟨by rw [HGT.out, HL.out.1, HRR.out, if_neg (by decide)]; omega, HB7.out⟩⟩
       |false =>
        go_wp2_with (go_at_call 55; refine (HH.out _ ?s1).mono ?_; (case s1 => exact HL.out.2); rintro e w7 ⟨rfl, hb⟩; have HB7 := zh (v6 HL.out.2 hb); clear y0 y1; have y1 := CG.out _ HB7.out; clear hb)
        go_roundg (p.length - i)
        case measure => omega
        case rel => exact ⟨i + 1, S + G.f1, by omega, rfl, by go_num, by omega, by omega, by omega, zh ⟨by rw [HGT.out, HL.out.1, HRR.out, if_pos (by decide)]; omega, HB7.out⟩⟩
      ·have e : i = p.length := by omega
       subst e
       have HT2 : Hid (S = T + gS (fun g => !z28 X g.f0 0) p) := zh (by have := HL.out.1; rwa [List.take_length] at this)
       have HB6 := zh HL.out.2
       clear HL
       go_wp2
       go_loopg [17, 19] (q.length + 1) (fun k sv iv W => ∃ (i : Nat) (s : Int), i ≤ q.length ∧ sv = .int .i64 s ∧ iv = .int .i64 i ∧ k = q.length + 1 - i ∧ 0 ≤ s ∧ s ≤ 12100000000000 + (i : Int) * 1048576 ∧ Hid (s = S + gS (fun g => z28 X g.f0 h) (q.take i) ∧ Below w.heap.size w W))
       case atStart => exact ⟨0, S, Nat.zero_le _, rfl, rfl, rfl, s0, by omega, zh ⟨by rw [List.take_zero, gS]; omega, HB6.out⟩⟩
       case round =>
        obtain ⟨i, s, hi, rfl, rfl, rfl, s0, s1, HL⟩ := hrel
        clear HB6
        by_cases hlt : i < q.length
        ·have i0 : (0 : Int) ≤ (i : Int) := by omega
         have i1 : (i : Int) < (q.length : Int) := by omega
         obtain ⟨ad, ea, y0, y1⟩ := z2y (Kd.C_below HQ.out HL.out.2) (i : Int) i0 i1
         subst ea
         rw [Int.toNat_natCast] at y0 y1
         have hgt := z8n (fun g => z28 X g.f0 h) hlt
         obtain ⟨G, hG⟩ : ∃ G, G = z0q q (i : Int) := ⟨_, rfl⟩
         have hgi := HPO.out.gq G (by rw [hG]; exact z2s hlt)
         rw [← hG] at y0 y1 hgt
         have g0 := hgi.1.1
         have g1 := hgi.1.2
         have g2 := hgi.2.1
         have g3 := hgi.2.2
         have HGT := zh hgt
         have CG : Hid (∀ W, Below w.heap.size w W → W.cell? ⟨(ad.add (i * 2)).block, (ad.add (i * 2)).off + 1, none⟩ = some (.int .i64 G.f1)) := zh (fun W hW => by
          obtain ⟨ad2, e2, z0, z1⟩ := z2y (Kd.C_below HQ.out hW) (i : Int) i0 i1
          injection e2 with e2
          subst e2
          rw [Int.toNat_natCast, ← hG] at z1
          exact z1)
         clear hG hgi hgt
         have e6 : IntKind.i64.wrap (s + G.f1) = s + G.f1 := IntWalk.i64_in _ (by omega)
         obtain ⟨R, hR⟩ : ∃ R, z28 X G.f0 h = R := ⟨_, rfl⟩
         have HRR := zh hR
         clear hR
         have HH : Hid (∀ W, Below w.heap.size w W → Calls Tryz.prog 55 #[.slice AX X.length cX, .int .i64 G.f0, .int .i64 h] W fun e w' => e = .returned (.bool R) ∧ Below W.heap.size W w') := zh (fun W hW => z09 AX cX X G.f0 h R W (Kd.C_below HXX.out hW) hlX HRR.out.symm)
         cases R with
         |false =>
          go_wp2_with (go_at_call 55; refine (HH.out _ ?s1).mono ?_; (case s1 => exact HL.out.2); rintro e w7 ⟨rfl, hb⟩; have HB7 := zh (v6 HL.out.2 hb); clear y0 y1; have y1 := CG.out _ HB7.out; clear hb)
          go_roundg (q.length - i)
          case measure => omega
          case rel => exact ⟨i + 1, s, by omega, rfl, by go_num, by omega, s0, by omega, zh ⟨by rw [HGT.out, HL.out.1, HRR.out, if_neg (by decide)]; omega, HB7.out⟩⟩
         |true =>
          go_wp2_with (go_at_call 55; refine (HH.out _ ?s1).mono ?_; (case s1 => exact HL.out.2); rintro e w7 ⟨rfl, hb⟩; have HB7 := zh (v6 HL.out.2 hb); clear y0 y1; have y1 := CG.out _ HB7.out; clear hb)
          go_roundg (q.length - i)
          case measure => omega
          case rel => exact ⟨i + 1, s + G.f1, by omega, rfl, by go_num, by omega, by omega, by omega, zh ⟨by rw [HGT.out, HL.out.1, HRR.out, if_pos (by decide)]; omega, HB7.out⟩⟩
        ·have e : i = q.length := by omega
         subst e
         go_wp2
         go_ret2
         have h9 := HL.out.1
         rw [List.take_length, HT2.out, HT.out] at h9
         refine ⟨HL.out.2, .inr ⟨HOK.out, .inr ⟨?_, HKR.out⟩⟩⟩
         unfold x1y
         rw [← h9]
         rfl
theorem y7v (n h : Nat) (b : Bool) (A : Option Addr) (c : Nat) (l : List Arc) (Ap : Option Addr) (cp : Nat) (p : List Grp) (Aq : Option Addr) (cq : Nat) (q : List Grp) (AX : Option Addr) (cX : Nat) (X : List z3p) (w : World) (a : z3f n h l p q)
  (hr : Kd.C z3l w A l.length l) (hp : Kd.C z1v w Ap p.length p) (hq : Kd.C z1v w Aq q.length q) (hX : Kd.C z35 w AX X.length X) (hlX : X.length ≤ 1000000) :
  Calls Tryz.prog 19 #[.agg #[.int .i64 n, .bool b, .slice A l.length c], .slice Ap p.length cp, .slice Aq q.length cq, .int .i64 h, .slice AX X.length cX] w (y9z n h b l p q X w) :=
 x36 n h b A c l Ap cp p Aq cq q AX cX X w a (fun W hW => z8c n h b A c l Ap cp p Aq cq q W a (Kd.C_below hr hW) (Kd.C_below hp hW) (Kd.C_below hq hW)) hr hp hq hX hlX
end Go.Proofs.YtcgdloldkcmhnaaGreat.H
end
section
namespace Go.Proofs.YtcgdloldkcmhnaaGreat.H
open Go Go.RowKit Go.Proofs.YtcgdloldkcmhnaaGreat.PrintC Go.Proofs.YtcgdloldkcmhnaaGreat.PrintE Go.Proofs.YtcgdloldkcmhnaaGreatW.PrintWords
set_option linter.unusedVariables false
abbrev Ent := Int × Int × Int
def z7k (x : Ent) : Lit := z0r x.1 x.2.1
structure z83 (mv : List Ent) : Prop where
 dst : mv.Pairwise (fun x y => ¬ (x.1 = y.1 ∧ x.2.1 = y.2.1))
 small : ∀ x, x ∈ mv → (0 ≤ x.1 ∧ x.1 ≤ 1000000) ∧ (0 ≤ x.2.1 ∧ x.2.1 ≤ 1000000) ∧ 0 ≤ x.2.2 ∧ x.2.2 ≤ 1000000
section
variable {mv : List Ent}
theorem z83.wf (h : z83 mv) {x : Ent} (hx : x ∈ mv) : Wf x.1 ∧ Wf x.2.1 := by
 have := h.small x hx
 exact ⟨z0o this.1.1 (by omega), z0o this.2.1.1 (by omega)⟩
theorem z83.nodup (h : z83 mv) : mv.Nodup := h.dst.imp (fun hxy e => hxy (by rw [e]; exact ⟨rfl, rfl⟩))
theorem z83.inj (h : z83 mv) {x y : Ent} (hx : x ∈ mv) (hy : y ∈ mv) (e : z7k x = z7k y) : x = y := by
 obtain ⟨e1, e2⟩ := z5p (h.wf hx).1 (h.wf hx).2 (h.wf hy).1 (h.wf hy).2 e
 obtain ⟨i, hi, rfl⟩ := List.getElem_of_mem hx
 obtain ⟨j, hj, rfl⟩ := List.getElem_of_mem hy
 have h1 := List.pairwise_iff_getElem.1 h.dst
 rcases Nat.lt_trichotomy i j with c | c | c
 ·exact absurd ⟨e1, e2⟩ (h1 i j hi hj c)
 ·subst c
  rfl
 ·exact absurd ⟨e1.symm, e2.symm⟩ (h1 j i hj hi c)
theorem y4x {x : Ent} (h : Wf x.1 ∧ Wf x.2.1) : WideAt.IsKeyLit (z7k x) := z4p.key (z2b x.1 x.2.1 h.1 h.2)
theorem z4x (mv : List Ent) : Maps.IsMap (z2x mv) := by
 have h : ∀ (L : List Ent) (D : DataW Unit), Maps.IsMap D → Maps.IsMap (L.foldl (fun D x => D.put (z0r x.1 x.2.1) (.lit (.int .i64 x.2.2))) D) := fun L => by
  induction L with
  |nil => exact fun D h => h
  |cons x L ih =>
   intro D h
   obtain ⟨es, rfl⟩ := h
   exact ih _ ⟨_, rfl⟩
 exact h mv _ ⟨_, rfl⟩
theorem y6a : ∀ {mv : List Ent}, (∀ x, x ∈ mv → Wf x.1 ∧ Wf x.2.1) → ∀ kl, Maps.has (z2x mv) kl = true → ∃ x, x ∈ mv ∧ z7k x = kl := by
 intro mv hw kl h
 have g : ∀ (L : List Ent) (D : DataW Unit), (∀ x, x ∈ L → Wf x.1 ∧ Wf x.2.1) → Maps.has (L.foldl (fun D x => D.put (z0r x.1 x.2.1) (.lit (.int .i64 x.2.2))) D) kl = true → Maps.has D kl = true ∨ ∃ x, x ∈ L ∧ z7k x = kl := fun L => by
  induction L with
  |nil => exact fun D _ h => .inl h
  |cons x L ih =>
   intro D hw h
   rcases ih _ (fun y hy => hw y (List.mem_cons_of_mem _ hy)) h with h1 | ⟨y, hy, e⟩
   ·by_cases e : z7k x = kl
    ·exact .inr ⟨x, List.mem_cons_self .., e⟩
    ·have h2 := Maps.has_put_other (k := z7k x) (k' := kl) (fun e2 => e e2.symm) (D := D) (.lit (.int .i64 x.2.2))
     exact .inl (h2.symm.trans h1)
   ·exact .inr ⟨y, List.mem_cons_of_mem _ hy, e⟩
 rcases g mv _ hw h with h1 | h1
 ·cases h1
 ·exact h1
theorem y7y (h : z83 mv) {x : Ent} (hx : x ∈ mv) (z : DataW Unit) : (z2x mv).atKey (z7k x) z = .lit (.int .i64 x.2.2) ∧ Maps.has (z2x mv) (z7k x) = true := by
 obtain ⟨a, b, rfl⟩ := List.append_of_mem hx
 have g : ∀ (L : List Ent) (D : DataW Unit), Maps.IsMap D → (∀ y, y ∈ L → z7k y ≠ z7k x) → (L.foldl (fun D x => D.put (z0r x.1 x.2.1) (.lit (.int .i64 x.2.2))) D).atKey (z7k x) z = D.atKey (z7k x) z ∧ Maps.has (L.foldl (fun D x => D.put (z0r x.1 x.2.1) (.lit (.int .i64 x.2.2))) D) (z7k x) = Maps.has D (z7k x) := fun L => by
  induction L with
  |nil => exact fun D _ _ => ⟨rfl, rfl⟩
  |cons y L ih =>
   intro D hD hn
   have h1 := hn y (List.mem_cons_self ..)
   obtain ⟨h2, h3⟩ := ih (D.put (z0r y.1 y.2.1) (.lit (.int .i64 y.2.2))) (by obtain ⟨es, rfl⟩ := hD; exact ⟨_, rfl⟩) (fun v hv => hn v (List.mem_cons_of_mem _ hv))
   rw [List.foldl_cons, h2, h3]
   exact ⟨Maps.atKey_put_other (fun e => h1 e.symm) _ _, Maps.has_put_other (fun e => h1 e.symm) _⟩
 have e : z2x (a ++ x :: b) = b.foldl (fun D x => D.put (z0r x.1 x.2.1) (.lit (.int .i64 x.2.2))) ((z2x a).put (z7k x) (.lit (.int .i64 x.2.2))) := by
  unfold z2x
  rw [List.foldl_append]
  rfl
 have hk := y4x (h.wf hx)
 have hne : ∀ y, y ∈ b → z7k y ≠ z7k x := fun y hy e2 => by
  have h4 := (List.pairwise_append.1 h.nodup).2.1
  have h5 := List.pairwise_cons.1 h4
  exact h5.1 y hy (h.inj (List.mem_append_right _ (List.mem_cons_of_mem _ hy)) hx e2).symm
 obtain ⟨g1, g2⟩ := g b ((z2x a).put (z7k x) (.lit (.int .i64 x.2.2))) (by obtain ⟨es, hes⟩ := z4x a; rw [hes]; exact ⟨_, rfl⟩) hne
 rw [e, g1, g2]
 exact ⟨Maps.atKey_put_same (z4x a) hk _ _, Maps.has_put_same (z4x a) hk _⟩
def y3x (mv dn : List Ent) (left : Lit → Bool) : Prop := ∀ kl, left kl = true ↔ ∃ x, x ∈ mv ∧ x ∉ dn ∧ z7k x = kl
theorem y3x.start (h : z83 mv) : y3x mv [] (Maps.has (z2x mv)) := fun kl => by
 constructor
 ·intro h1
  obtain ⟨x, hx, e⟩ := y6a (fun x hx => h.wf hx) kl h1
  exact ⟨x, hx, by simp, e⟩
 ·rintro ⟨x, hx, -, rfl⟩
  exact (y7y h hx (.map [])).2
theorem y3x.step (h : z83 mv) {dn : List Ent} {left : Lit → Bool} (hl : y3x mv dn left) {x : Ent} (hx : x ∈ mv) : y3x mv (dn ++ [x]) (fun z => left z && !z.sameKey (z7k x)) := fun kl => by
 rw [Bool.and_eq_true, hl kl]
 constructor
 ·rintro ⟨⟨y, hy, hn, rfl⟩, hs⟩
  refine ⟨y, hy, fun hm => ?_, rfl⟩
  rcases List.mem_append.1 hm with hm | hm
  ·exact hn hm
  ·rw [List.mem_singleton.1 hm, WideAt.sameKey_self (y4x (h.wf hx))] at hs
   cases hs
 ·rintro ⟨y, hy, hn, rfl⟩
  refine ⟨⟨y, hy, fun hm => hn (List.mem_append_left _ hm), rfl⟩, ?_⟩
  cases c : (z7k y).sameKey (z7k x) with
  |false => rfl
  |true => exact absurd (List.mem_append_right dn (List.mem_singleton.2 (h.inj hy hx (WideAt.sameKey_eq c)))) hn
theorem y3x.done (h : z83 mv) {dn : List Ent} {left : Lit → Bool} (hl : y3x mv dn left) (hd : dn.Nodup) (hs : ∀ x, x ∈ dn → x ∈ mv) (h0 : ∀ kl, left kl = false) : dn.Perm mv := by
 refine (List.perm_ext_iff_of_nodup hd h.nodup).2 (fun x => ⟨hs x, fun hx => ?_⟩)
 by_cases e : x ∈ dn
 ·exact e
 ·have := (hl (z7k x)).2 ⟨x, hx, e, rfl⟩
  rw [h0] at this
  cases this
end
end Go.Proofs.YtcgdloldkcmhnaaGreat.H
end
section
namespace Go.Proofs.YtcgdloldkcmhnaaGreat.H
open Go Go.RowKit Go.Proofs.YtcgdloldkcmhnaaGreat.PrintC Go.Proofs.YtcgdloldkcmhnaaGreat.PrintE Go.Proofs.YtcgdloldkcmhnaaGreatW.PrintWords Go.Proofs.YtcgdloldkcmhnaaGreat.Flow
set_option linter.unusedVariables false
theorem z82.eq {L a b : List Mv} (ha : z82 L a) (hb : z82 L b) : a = b := by
 have key : ∀ {a b : List Mv}, z82 L a → z82 L b → ∀ y, y ∈ a → y ∈ b := fun {a b} ha hb y hy => by
  obtain ⟨h1, h2, x, hx, h3⟩ := ha.am y hy
  obtain ⟨-, h4⟩ := hb.all x hx
  rw [← z5d (z2n h3)] at h4
  obtain ⟨w, hw, h5⟩ := h4 (by rw [← h1]; exact h2)
  obtain ⟨h6, -, -⟩ := hb.am w hw
  have h7 := z30 (z2n h3) h5
  rw [← z5d h7, ← h1] at h6
  obtain ⟨e0, e1⟩ := z0n.1 h7
  have : y = w := by
   cases y
   cases w
   simp only at e0 e1 h6
   rw [e0, e1, h6]
  rw [this]
  exact hw
 have nd : ∀ {a : List Mv}, z82 L a → a.Nodup := fun {a} h => h.srt.imp (fun {x y} hxy e => by rw [e] at hxy; unfold mlt at hxy; omega)
 have hp : a.Perm b := (List.perm_ext_iff_of_nodup (nd ha) (nd hb)).2 (fun y => ⟨key ha hb y, key hb ha y⟩)
 exact hp.eq_of_pairwise (fun x y _ _ h1 h2 => by unfold mlt at h1 h2; omega) ha.srt hb.srt
end Go.Proofs.YtcgdloldkcmhnaaGreat.H
end
section
namespace Go.Proofs.YtcgdloldkcmhnaaGreat.H
open Go Go.RowKit Go.Proofs.YtcgdloldkcmhnaaGreat.PrintC Go.Proofs.YtcgdloldkcmhnaaGreat.PrintE Go.Proofs.YtcgdloldkcmhnaaGreatW.PrintWords Go.Proofs.YtcgdloldkcmhnaaGreatW.PrintLast Go.Proofs.YtcgdloldkcmhnaaGreatW.PrintMore Go.Proofs.YtcgdloldkcmhnaaGreat.Flow
set_option linter.unusedVariables false
set_option linter.unusedSimpArgs false
theorem y6l {n h : Nat} {l : List Arc} {p q : List Grp} {H H2 : Int → Int → Bool} (hP : z00 n h l p q) (e : ∀ v z : Int, 0 ≤ v → v < n → 0 ≤ z → z ≤ h → H v z = H2 v z) : x1y h l p q H = x1y h l p q H2 := by
 have e1 : z4m (z0v q) H h l = z4m (z0v q) H2 h l := by
  refine z1d _ fun j hj => ?_
  have he := hP.net.ends j hj
  have ht := hP.net.time j hj
  unfold tkA
  split
  ·refine z1d _ fun z hz => ?_
   unfold tk1
   rw [e _ z he.1.1 he.1.2 (by omega) (by omega), e _ ((z : Int) + (z0i l j).f3) he.2.1 he.2.2 (by omega) (by omega)]
  ·rfl
 have e2 : gS (fun g => !H g.f0 0) p = gS (fun g => !H2 g.f0 0) p := z6l fun g hg => by
  have h9 := hP.gp g hg
  show (!H g.f0 0) = (!H2 g.f0 0)
  rw [e _ 0 h9.1.1 h9.1.2 (Int.le_refl _) (by omega)]
 have e3 : gS (fun g => H g.f0 h) q = gS (fun g => H2 g.f0 h) q := z6l fun g hg => by
  have h9 := hP.gq g hg
  show H g.f0 h = H2 g.f0 h
  rw [e _ h h9.1.1 h9.1.2 (by omega) (Int.le_refl _)]
 unfold x1y
 rw [e1, e2, e3]
theorem x0m {n h : Nat} {b : Bool} {l : List Arc} {p q : List Grp} {X : List z3p} {w w' : World} {e : Ending} (hP : z00 n h l p q) (hh : h ≤ 1024) (hX : y0o X) (k : y9z n h b l p q X w e w') : x2w n h b l p q X w e w' := by
 have n1 := hP.net.n1
 have hs : ∀ v z : Int, 0 ≤ v → v < n → 0 ≤ z → z ≤ h → z28 X v z = z3w (y0p X) v z := fun v z h0 h1 h2 h3 => (y1i hX (z0o h0 (by omega)) (z0o h2 (by omega))).symm
 obtain ⟨hb, k⟩ := k
 refine ⟨hb, ?_⟩
 rcases k with ⟨rfl, k⟩ | ⟨k1, (⟨rfl, v, z, hv, hk, hz, c1, c2⟩ | ⟨rfl, k2⟩)⟩
 ·exact .inl ⟨rfl, k⟩
 ·exact .inr ⟨k1, .inl ⟨rfl, v, z, hv, hk, hz, by rw [← hs v z (by omega) (by omega) (by omega) (by omega)]; exact c1, by rw [← hs v ((z : Int) + 1) (by omega) (by omega) (by omega) (by omega)]; exact c2⟩⟩
 ·refine .inr ⟨k1, .inr ⟨by rw [y6l hP hs], fun v hv hk z hz c1 => ?_⟩⟩
  rw [← hs v ((z : Int) + 1) (by omega) (by omega) (by omega) (by omega)]
  refine k2 v hv hk z hz ?_
  rw [hs v z (by omega) (by omega) (by omega) (by omega)]
  exact c1
theorem x4t (n h : Nat) (b : Bool) (l : List Arc) (p q : List Grp) (L : List Mv) : ∃ V E : Int, ∀ w e w', x2v n h b l p q L w e w' → e = .returned (.tuple #[.int .i64 V, .int .i64 E]) ∧ Below w.heap.size w w' := by
 have nof : ∀ {m}, z82 L m → ¬ ∃ x, x ∈ L ∧ z7b (amt L x) = false := fun {m} hm ⟨x, hx, hf⟩ => by
  have := (hm.all x (by rw [List.take_length]; exact hx)).1
  rw [hf] at this
  cases this
 by_cases h1 : ∃ m, z82 L m
 ·obtain ⟨m, hm⟩ := h1
  by_cases h2 : ∀ x, x ∈ m → mok l h q x = true
  ·by_cases h3 : ∃ v z : Nat, v < n ∧ z ≤ h ∧ z6n h b l p q m v z
   ·refine ⟨0, 141, fun w e w' k => ?_⟩
    obtain ⟨hb, (⟨k, _, _, rfl, ((⟨rfl, ho⟩ | ⟨rfl, m2, hm2, x, hx, hf⟩) | ⟨rfl, _⟩)⟩ | ⟨m2, hk, rfl⟩)⟩ := k
    ·exact absurd ho (nof hm)
    ·rw [z82.eq hm2 hm] at hx
     rw [h2 x hx] at hf
     cases hf
    ·exact ⟨rfl, hb⟩
    ·obtain ⟨v, z, hv, hz, hbad⟩ := h3
     refine absurd ?_ (hk.2.2 v z hv hz)
     rw [z82.eq hk.1 hm]
     exact hbad
   ·refine ⟨x37 n h l p q m, 0, fun w e w' k => ?_⟩
    obtain ⟨hb, (⟨k, _, _, rfl, ((⟨rfl, ho⟩ | ⟨rfl, m2, hm2, x, hx, hf⟩) | ⟨rfl, m2, hm2, _, hbad⟩)⟩ | ⟨m2, hk, rfl⟩)⟩ := k
    ·exact absurd ho (nof hm)
    ·rw [z82.eq hm2 hm] at hx
     rw [h2 x hx] at hf
     cases hf
    ·rw [z82.eq hm2 hm] at hbad
     exact absurd hbad h3
    ·rw [z82.eq hk.1 hm]
     exact ⟨rfl, hb⟩
  ·refine ⟨0, 140, fun w e w' k => ?_⟩
   obtain ⟨hb, (⟨k, _, _, rfl, ((⟨rfl, ho⟩ | ⟨rfl, _⟩) | ⟨rfl, m2, hm2, hok, _⟩)⟩ | ⟨m2, hk, rfl⟩)⟩ := k
   ·exact absurd ho (nof hm)
   ·exact ⟨rfl, hb⟩
   ·rw [z82.eq hm2 hm] at hok
    exact absurd hok h2
   ·have := hk.2.1
    rw [z82.eq hk.1 hm] at this
    exact absurd this h2
 ·refine ⟨0, 10, fun w e w' k => ?_⟩
  obtain ⟨hb, (⟨k, _, _, rfl, ((⟨rfl, ho⟩ | ⟨rfl, m2, hm2, _⟩) | ⟨rfl, m2, hm2, _⟩)⟩ | ⟨m2, hk, rfl⟩)⟩ := k
  ·exact ⟨rfl, hb⟩
  ·exact absurd ⟨m2, hm2⟩ h1
  ·exact absurd ⟨m2, hm2⟩ h1
  ·exact absurd ⟨m2, hk.1⟩ h1
def x2p (m : Nat) (b : Bool) (w : World) (e : Ending) (w' : World) : Prop :=
 ∃ (n : Int) (l : List Arc) (s t h : Int) (A : Option Addr) (c : Nat), e = .returned (.tuple #[.agg #[.int .i64 n, .bool b, .slice A l.length c], .int .i64 s, .int .i64 t, .int .i64 h]) ∧ Kd.R z3l 104 w' w.heap.size (fun _ => True) (.slice A l.length c) l ∧ x2s m n l ∧ (0 ≤ s ∧ s < n) ∧ (0 ≤ t ∧ t < n) ∧ s ≠ t ∧ (0 ≤ h ∧ h ≤ 7) ∧ Below w.heap.size w w'
theorem z7s {x n : Int} (h0 : 0 ≤ x) (h1 : x < 4611686018427387904) (hn : 0 < n) : 0 ≤ (IntKind.i64.wrap x).tmod n ∧ (IntKind.i64.wrap x).tmod n < n := by
 rw [IntWalk.i64_in x (by omega), Int.tmod_eq_emod_of_nonneg h0]
 exact ⟨Int.emod_nonneg _ (by omega), Int.emod_lt_of_pos _ hn⟩
theorem x5q {n a3 a4 : Int} (n2 : 2 ≤ n) (n5 : n ≤ 5) (h3 : 0 ≤ a3) (h4 : 0 ≤ a4) (g4 : a4 ≤ 255) : (0 ≤ a3 % n ∧ a3 % n < n) ∧ (0 ≤ (IntKind.i64.wrap (IntKind.i64.wrap (a3 % n + 1) + (IntKind.i64.wrap a4).tmod (IntKind.i64.wrap (n - 1)))).tmod n ∧ (IntKind.i64.wrap (IntKind.i64.wrap (a3 % n + 1) + (IntKind.i64.wrap a4).tmod (IntKind.i64.wrap (n - 1)))).tmod n < n) ∧
  a3 % n ≠ (IntKind.i64.wrap (IntKind.i64.wrap (a3 % n + 1) + (IntKind.i64.wrap a4).tmod (IntKind.i64.wrap (n - 1)))).tmod n := by
 have s0 := Int.emod_nonneg a3 (show n ≠ 0 by omega)
 have s1 := Int.emod_lt_of_pos a3 (show 0 < n by omega)
 generalize a3 % n = s at s0 s1
 rw [IntWalk.i64_in (n - 1) (by omega)]
 have r1 := z7s (x := a4) (n := n - 1) h4 (by omega) (by omega)
 generalize (IntKind.i64.wrap a4).tmod (n - 1) = r at r1
 rw [IntWalk.i64_in (s + 1) (by omega), IntWalk.i64_in (s + 1 + r) (by omega), Int.tmod_eq_emod_of_nonneg (by omega)]
 refine ⟨⟨s0, s1⟩, ⟨Int.emod_nonneg _ (by omega), Int.emod_lt_of_pos _ (by omega)⟩, ?_⟩
 have : n = 2 ∨ n = 3 ∨ n = 4 ∨ n = 5 := by omega
 rcases this with rfl | rfl | rfl | rfl <;> omega
def x3n (n : Int) (l : List Arc) : Prop := ∀ x, x ∈ l → (0 ≤ x.f0 ∧ x.f0 < n) ∧ (0 ≤ x.f1 ∧ x.f1 < n) ∧ (0 ≤ x.f2 ∧ x.f2 ≤ 5) ∧ 0 ≤ x.f3 ∧ x.f3 ≤ 3
theorem y2w (m : Nat) (hm : m ≤ 1000) (i : Int) (hi : i = m) (a0 : Int) (a1 : Bool) (A2 : Option Addr) (c2 : Nat) (l2 : List y93) (a3 a4 a5 : Int) (w : World) (hr : Kd.C x5i w A2 l2.length l2) (h0 : U8 a0) (hb : U8s l2) (h3 : U8 a3) (h4 : U8 a4) (h5 : U8 a5) :
  Calls Tryz.prog 23 #[.agg #[.int .u8 a0, .bool a1, .slice A2 l2.length c2, .int .u8 a3, .int .u8 a4, .int .u8 a5], .int .i64 i] w (x2p m a1 w) := by
 have HR := zh hr
 have HU := zh hb
 have hu := Tryz.underlying33
 have hu2 := Tryz.underlying24
 have b0 : 0 ≤ a0 := h0.1
 have b1 : a0 ≤ 255 := h0.2
 have b3 : 0 ≤ a3 := h3.1
 have b4 : a3 ≤ 255 := h3.2
 have b5 : 0 ≤ a4 := h4.1
 have b6 : a4 ≤ 255 := h4.2
 have b7 : 0 ≤ a5 := h5.1
 have b8 : a5 ≤ 255 := h5.2
 clear hr hb h0 h3 h4 h5
 go_enter Tryz.func23, Tryz.ntmps23
 go_wp2
 obtain ⟨n, hn⟩ : ∃ n, n = 2 + a0 % 4 := ⟨_, rfl⟩
 have n2 : 2 ≤ n := by omega
 have n5 : n ≤ 5 := by omega
 rw [← hn]
 clear hn b0 b1
 obtain ⟨w3, hw3⟩ : ∃ w3, w3 = ((w.alloc (.cells #[.int .u8 a0, .bool a1, .slice A2 l2.length c2, .int .u8 a3, .int .u8 a4, .int .u8 a5] 24)).alloc (.cells #[.int .i64 0, .bool false, .slice none 0 0] 33)).alloc (.cells #[.int .i64 n, .bool a1, .slice none 0 0] 33) := ⟨_, rfl⟩
 have HX2 : Hid (w3.heap[w.heap.size]? = some (.cells #[.int .u8 a0, .bool a1, .slice A2 l2.length c2, .int .u8 a3, .int .u8 a4, .int .u8 a5] 24 (0, 0))) := zh (by rw [hw3]; exact j9 (j9 (heap_alloc_new _ _) _) _)
 have HX4 : Hid (w3.heap[w.heap.size + 1]? = some (.cells #[.int .i64 0, .bool false, .slice none 0 0] 33 (0, 0))) := zh (by rw [hw3]; exact j9 (z01 (by simp)) _)
 have HX8 : Hid (w3.heap[w.heap.size + 1 + 1]? = some (.cells #[.int .i64 n, .bool a1, .slice none 0 0] 33 (0, 0))) := zh (by rw [hw3]; exact z01 (by simp))
 have HB3 : Hid (Below w.heap.size w w3) := zh (by rw [hw3]; exact y8 (y8 (y8 (Below.refl _ _) _) _) _)
 rw [← hw3]
 clear hw3
 obtain ⟨base, hbase⟩ : ∃ base, base = w.heap.size := ⟨_, rfl⟩
 obtain ⟨g4, hg4⟩ : ∃ g4, g4 = w.heap.size + 1 := ⟨_, rfl⟩
 obtain ⟨g8, hg8⟩ : ∃ g8, g8 = w.heap.size + 1 + 1 := ⟨_, rfl⟩
 rw [← hg4] at HX4
 rw [← hg8] at HX8
 rw [← hg8, ← hg4]
 have GE4 : Hid (w.heap.size ≤ g4) := zh (by omega)
 have GE8 : Hid (w.heap.size ≤ g8) := zh (by omega)
 have N84 : Hid (g8 ≠ g4) := zh (by omega)
 have N28 : Hid (w.heap.size ≠ g8) := zh (by omega)
 have N48 : Hid (g4 ≠ g8) := zh (by omega)
 have N24 : Hid (w.heap.size ≠ g4) := zh (by omega)
 clear hg4 hg8 hbase base
 have HI := zh hi
 clear hi
 go_loopg [9] (m + 1) (fun k iv W => ∃ (j : Nat) (acc : List Arc) (Av : Option Addr) (cv : Nat), j ≤ m ∧ iv = .int .i64 j ∧ acc.length = j ∧ k = m + 1 - j ∧ Hid (x3n n acc ∧ Kd.R z3l 104 W w.heap.size (fun _ => True) (.slice Av acc.length cv) acc ∧ W.heap[w.heap.size]? = some (.cells #[.int .u8 a0, .bool a1, .slice A2 l2.length c2, .int .u8 a3, .int .u8 a4, .int .u8 a5] 24 (0, 0)) ∧ W.heap[g4]? = some (.cells #[.int .i64 0, .bool false, .slice none 0 0] 33 (0, 0)) ∧ W.heap[g8]? = some (.cells #[.int .i64 n, .bool a1, .slice Av acc.length cv] 33 (0, 0)) ∧ Below w.heap.size w W))
 case atStart => exact ⟨0, [], none, 0, Nat.zero_le _, rfl, rfl, rfl, zh ⟨fun x hx => (nomatch hx), Kd.R_nil _ _ _ _ _, HX2.out, HX4.out, HX8.out, HB3.out⟩⟩
 case round =>
  obtain ⟨j, acc, Av, cv, hj, rfl, hacc, rfl, HL⟩ := hrel
  clear HX2 HX4 HX8 HB3
  have x2 : wr.cell? ⟨w.heap.size, 2, none⟩ = some (.slice A2 l2.length c2) := (y7 HL.out.2.2.1 2).trans rfl
  have i0 : (0 : Int) ≤ (j : Int) := by omega
  by_cases c1 : j < l2.length
  ·have c1' : (j : Int) < (l2.length : Int) := by omega
   by_cases c2' : j < m
   ·have c3 : (j : Int) < i := by rw [HI.out]; omega
    obtain ⟨ad, ea, y0, y1, y2, y3⟩ := x42 (Kd.C_below HR.out HL.out.2.2.2.2.2) (j : Int) i0 c1'
    subst ea
    rw [Int.toNat_natCast] at y0 y1 y2 y3
    have hx := HU.out _ (x0l c1)
    obtain ⟨e0, he0⟩ : ∃ e0, e0 = (z3r l2 (j : Int)).f0 := ⟨_, rfl⟩
    obtain ⟨e1, he1⟩ : ∃ e1, e1 = (z3r l2 (j : Int)).f1 := ⟨_, rfl⟩
    obtain ⟨e2, he2⟩ : ∃ e2, e2 = (z3r l2 (j : Int)).f2 := ⟨_, rfl⟩
    obtain ⟨e3, he3⟩ : ∃ e3, e3 = (z3r l2 (j : Int)).f3 := ⟨_, rfl⟩
    rw [← he0] at y0 hx
    rw [← he1] at y1 hx
    rw [← he2] at y2 hx
    rw [← he3] at y3 hx
    obtain ⟨⟨u0, v0⟩, ⟨u1, v1⟩, ⟨u2, v2⟩, ⟨u3, v3⟩⟩ := hx
    clear he0 he1 he2 he3
    go_wp2
    obtain ⟨wq, hwq⟩ : ∃ wq, wq = wr.alloc (.cells #[.int .u8 e0, .int .u8 e1, .int .u8 e2, .int .u8 e3] 112) := ⟨_, rfl⟩
    have HQ : Hid (Kd.R z3l 104 wq w.heap.size (fun _ => True) (.slice Av acc.length cv) acc ∧ wq.heap[w.heap.size]? = some (.cells #[.int .u8 a0, .bool a1, .slice (some ad) l2.length c2, .int .u8 a3, .int .u8 a4, .int .u8 a5] 24 (0, 0)) ∧ wq.heap[g4]? = some (.cells #[.int .i64 0, .bool false, .slice none 0 0] 33 (0, 0)) ∧ wq.heap[g8]? = some (.cells #[.int .i64 n, .bool a1, .slice Av acc.length cv] 33 (0, 0)) ∧ Below w.heap.size w wq) := zh (by rw [hwq]; exact ⟨Kd.R_below HL.out.2.1 (y8 (Below.refl _ _) _), j9 HL.out.2.2.1 _, j9 HL.out.2.2.2.1 _, j9 HL.out.2.2.2.2.1 _, y8 HL.out.2.2.2.2.2 _⟩)
    have HX10 : Hid (wq.heap[wr.heap.size]? = some (.cells #[.int .u8 e0, .int .u8 e1, .int .u8 e2, .int .u8 e3] 112 (0, 0))) := zh (by rw [hwq]; exact heap_alloc_new _ _)
    rw [← hwq]
    clear hwq x2 y0 y1 y2 y3
    have HA := zh HL.out.1
    clear HL
    generalize wr.heap.size = go at *
    have x0 : wq.cell? ⟨g8, 0, none⟩ = some (.int .i64 n) := (y7 HQ.out.2.2.2.1 0).trans rfl
    have x2 : wq.cell? ⟨g8, 2, none⟩ = some (.slice Av acc.length cv) := (y7 HQ.out.2.2.2.1 2).trans rfl
    have y0 : wq.cell? ⟨go, 0, none⟩ = some (.int .u8 e0) := (y7 HX10.out 0).trans rfl
    have y1 : wq.cell? ⟨go, 1, none⟩ = some (.int .u8 e1) := (y7 HX10.out 1).trans rfl
    have y2 : wq.cell? ⟨go, 2, none⟩ = some (.int .u8 e2) := (y7 HX10.out 2).trans rfl
    have y3 : wq.cell? ⟨go, 3, none⟩ = some (.int .u8 e3) := (y7 HX10.out 3).trans rfl
    have hn0 : ¬ n = 0 := by omega
    have hal : acc.length ≤ 1000 := by omega
    have HAC := zh hacc
    clear hacc
    refine z1u (S := fun w' => w'.cell? ⟨g8, 0, none⟩ = some (.int .i64 n) ∧ w'.cell? ⟨g8, 2, none⟩ = some (.slice Av acc.length cv) ∧ w'.cell? ⟨go, 0, none⟩ = some (.int .u8 e0) ∧ w'.cell? ⟨go, 1, none⟩ = some (.int .u8 e1) ∧ w'.cell? ⟨go, 2, none⟩ = some (.int .u8 e2) ∧ w'.cell? ⟨go, 3, none⟩ = some (.int .u8 e3)) (ds := [26]) 27 (by kernel_rfl) rfl ⟨x0, x2, y0, y1, y2, y3⟩ (fun hHeld => ?_)
    repeat (first | refine rP 27 ?_ | refine rT 27 hHeld ?_)
    refine x0e 27 (N := some 61) rfl rfl (by kernel_rfl) (by decide) (fun K hK => ?_)
    refine y3y (w1 := ?_) (v := ?_) (by rfl) rfl ?_ ?_
    rotate_left 2
    ·go_simp
     constructor
     ·rfl
     ·rfl
    refine hK.out _ _ ⟨(y7 (j9 (n7 HQ.out.2.2.2.1) _) 0).trans rfl, (y7 (j9 (n7 HQ.out.2.2.2.1) _) 2).trans rfl, (y7 (j9 (n7 HX10.out) _) 0).trans rfl, (y7 (j9 (n7 HX10.out) _) 1).trans rfl, (y7 (j9 (n7 HX10.out) _) 2).trans rfl, (y7 (j9 (n7 HX10.out) _) 3).trans rfl⟩ (fun hHeld => ?_)
    clear hK K
    refine sN ?_
    refine x0e 27 (N := some 62) rfl rfl (by kernel_rfl) (by decide) (fun K hK => ?_)
    (repeat rw [z24])
    refine Kd.R_append_step z3l (w0 := w) w.heap.size (by rfl) (.tmp 39) (.tmp 61) 31 104 (.agg #[.int .i64 0, .int .i64 0, .int .i64 0, .int .i64 0]) 32 (by rfl) Tryz.underlying31 y8w rfl (by decide) (by decide) (.slice Av acc.length cv) acc ⟨(IntKind.i64.wrap e0).tmod n, (IntKind.i64.wrap e1).tmod n, (IntKind.i64.wrap e2).tmod 6, (IntKind.i64.wrap e3).tmod 4⟩ [.int .i64 ((IntKind.i64.wrap e0).tmod n), .int .i64 ((IntKind.i64.wrap e1).tmod n), .int .i64 ((IntKind.i64.wrap e2).tmod 6), .int .i64 ((IntKind.i64.wrap e3).tmod 4)] (fun _ => True) (fun _ => False) (by rfl) (by rfl) (y4o _ _ _ (⟨(IntKind.i64.wrap e0).tmod n, (IntKind.i64.wrap e1).tmod n, (IntKind.i64.wrap e2).tmod 6, (IntKind.i64.wrap e3).tmod 4⟩ : Arc)) (fun _ hk => hk.elim) (fun _ _ => trivial) ?aO ?aB ?aS (by omega) ?_; (case aO => exact Kd.R_drew HQ.out.1); (case aB => exact q6 HQ.out.2.2.2.2); (case aS => exact HQ.out.2.2.2.2.size); intro v1 w9 ho hb hg hat; obtain ⟨A1, c1, rfl⟩ := Kd.R_slice ho; have HS9 := zh (And.intro ho (And.intro (z0b (n7 HQ.out.2.1) hg (Kd.R_ne HQ.out.1 HQ.out.2.1 (by decide))) (And.intro (z0b (n7 HQ.out.2.2.1) hg (Kd.R_ne HQ.out.1 HQ.out.2.2.1 (by decide))) (And.intro (z0b (n7 HQ.out.2.2.2.1) hg (Kd.R_ne HQ.out.1 HQ.out.2.2.2.1 (by decide))) (And.intro (z0b (n7 HX10.out) hg (Kd.R_ne HQ.out.1 HX10.out (by decide))) hb))))); clear ho hb hg hat
    refine hK.out _ _ ⟨(y7 HS9.out.2.2.2.1 0).trans rfl, (y7 HS9.out.2.2.2.1 2).trans rfl, (y7 HS9.out.2.2.2.2.1 0).trans rfl, (y7 HS9.out.2.2.2.2.1 1).trans rfl, (y7 HS9.out.2.2.2.2.1 2).trans rfl, (y7 HS9.out.2.2.2.2.1 3).trans rfl⟩ (fun hHeld => ?_)
    clear hK K
    refine sN ?_
    refine rP 27 ?_
    refine z5n 27 (N := none) rfl rfl (by kernel_rfl) (by decide) (fun K hK => ?_)
    have z2 : w9.cell? ⟨g8, 2, none⟩ = some (.slice Av acc.length cv) := (y7 HS9.out.2.2.2.1 2).trans rfl
    have f2 : w9.frozen? ⟨g8, 2, none⟩ = false := j3 HS9.out.2.2.2.1 2
    refine z54 (w1 := ?_) (by rfl) rfl ?_ ?_
    rotate_left
    ·go_simp
     rfl
    refine hK.out _ _ ?_
    clear hK K
    refine z1e (by kernel_rfl) ?_
    go_wp2
    have el : (acc ++ [(⟨(IntKind.i64.wrap e0).tmod n, (IntKind.i64.wrap e1).tmod n, (IntKind.i64.wrap e2).tmod 6, (IntKind.i64.wrap e3).tmod 4⟩ : Arc)]).length = acc.length + 1 := by rw [List.length_append]; rfl
    have hs := HS9.out
    rw [el] at hs
    have q0 := z7s (x := e0) (n := n) u0 (by omega) (by omega)
    have q1 := z7s (x := e1) (n := n) u1 (by omega) (by omega)
    have q2 := z7s (x := e2) (n := 6) u2 (by omega) (by omega)
    have q3 := z7s (x := e3) (n := 4) u3 (by omega) (by omega)
    have har : x3n n (acc ++ [(⟨(IntKind.i64.wrap e0).tmod n, (IntKind.i64.wrap e1).tmod n, (IntKind.i64.wrap e2).tmod 6, (IntKind.i64.wrap e3).tmod 4⟩ : Arc)]) := fun x hx => by
     rcases List.mem_append.1 hx with hx | hx
     ·exact HA.out x hx
     ·obtain rfl := List.mem_singleton.1 hx
      exact ⟨q0, q1, ⟨q2.1, Int.le_of_lt_add_one q2.2⟩, q3.1, Int.le_of_lt_add_one q3.2⟩
    have hac := HAC.out
    go_roundg (m - j)
    case measure => omega
    case rel => exact ⟨j + 1, _, A1, c1, by omega, by go_num, by rw [el, hac], by omega, zh ⟨har, by rw [el]; exact Kd.R_mono (Kd.R_far (p := ⟨g8, 2, none⟩) (Kd.R_types hs.1 hs.2.2.2.1 (by decide)) (fun _ hk => hk.2) (.slice A1 (acc.length + 1) c1)) (fun _ hk => trivial), z0p hs.2.1 N28.out _, z0p hs.2.2.1 N48.out _, by rw [el]; exact z0h (cs := #[.int .i64 n, .bool a1, .slice Av acc.length cv]) hs.2.2.2.1 2 _ rfl, q5 hs.2.2.2.2.2 GE8.out⟩⟩
   ·have c3 : ¬ (j : Int) < i := by rw [HI.out]; omega
    have x3 : wr.cell? ⟨w.heap.size, 3, none⟩ = some (.int .u8 a3) := (y7 HL.out.2.2.1 3).trans rfl
    have x4 : wr.cell? ⟨w.heap.size, 4, none⟩ = some (.int .u8 a4) := (y7 HL.out.2.2.1 4).trans rfl
    have x5 : wr.cell? ⟨w.heap.size, 5, none⟩ = some (.int .u8 a5) := (y7 HL.out.2.2.1 5).trans rfl
    have y0 : wr.cell? ⟨g8, 0, none⟩ = some (.int .i64 n) := (y7 HL.out.2.2.2.2.1 0).trans rfl
    have y1 : wr.cell? ⟨g8, 1, none⟩ = some (.bool a1) := (y7 HL.out.2.2.2.2.1 1).trans rfl
    have y2 : wr.cell? ⟨g8, 2, none⟩ = some (.slice Av acc.length cv) := (y7 HL.out.2.2.2.2.1 2).trans rfl
    have hn0 : ¬ n = 0 := by omega
    have hn1 : ¬ IntKind.i64.wrap (n - 1) = 0 := by rw [IntWalk.i64_in _ (by omega)]; omega
    have HAC := zh hacc
    clear hacc
    go_wp2
    refine z1u (S := fun w' => w'.cell? ⟨w.heap.size, 4, none⟩ = some (.int .u8 a4) ∧ w'.cell? ⟨w.heap.size, 5, none⟩ = some (.int .u8 a5) ∧ w'.cell? ⟨g8, 0, none⟩ = some (.int .i64 n) ∧ w'.cell? ⟨g8, 1, none⟩ = some (.bool a1) ∧ w'.cell? ⟨g8, 2, none⟩ = some (.slice Av acc.length cv)) (ds := []) 14 (by kernel_rfl) rfl ⟨x4, x5, y0, y1, y2⟩ (fun hHeld => ?_)
    repeat (first | refine rP 14 ?_ | refine rT 14 hHeld ?_)
    refine z1e (by kernel_rfl) ?_
    go_wp2
    have r4 := n7 (n7 HL.out.2.2.2.1)
    refine z1u (S := fun w' => w'.cell? ⟨w.heap.size, 4, none⟩ = some (.int .u8 a4) ∧ w'.cell? ⟨w.heap.size, 5, none⟩ = some (.int .u8 a5) ∧ w'.cell? ⟨g8, 0, none⟩ = some (.int .i64 n) ∧ w'.cell? ⟨g8, 1, none⟩ = some (.bool a1) ∧ w'.cell? ⟨g8, 2, none⟩ = some (.slice Av acc.length cv)) (ds := []) 11 (by kernel_rfl) rfl ⟨x4, x5, y0, y1, y2⟩ (fun hHeld => ?_)
    repeat (first | refine rP 11 ?_ | refine rT 11 hHeld ?_)
    refine x0e 11 (N := none) rfl rfl (by kernel_rfl) (by decide) (fun K hK => ?_)
    have HZ := zh (And.intro (Kd.R_drew (Kd.R_drew HL.out.2.1)) (And.intro r4 (And.intro (n7 (n7 HL.out.2.2.2.2.1)) (q6 (q6 HL.out.2.2.2.2.2)))))
    generalize wr.drew.drew = wz at hHeld r4 HZ ⊢
    have z0 : wz.cell? ⟨g4, 0, none⟩ = some (.int .i64 0) := (y7 r4 0).trans rfl
    have z1 : wz.cell? ⟨g4, 1, none⟩ = some (.bool false) := (y7 r4 1).trans rfl
    have z2 : wz.cell? ⟨g4, 2, none⟩ = some (.slice none 0 0) := (y7 r4 2).trans rfl
    have f0 := j3 r4 0
    have f1 := j3 r4 1
    have f2 := j3 r4 2
    refine z54 (w1 := ?_) (by rfl) rfl ?_ ?_
    rotate_left
    ·go_simp
     rfl
    refine hK.out _ _ ⟨((z0d (p := ⟨g4, _, none⟩) N24.out _).trans (((z0d (p := ⟨g4, _, none⟩) N24.out _).trans (((z0d (p := ⟨g4, _, none⟩) N24.out _).trans hHeld.1))))), ((z0d (p := ⟨g4, _, none⟩) N24.out _).trans (((z0d (p := ⟨g4, _, none⟩) N24.out _).trans (((z0d (p := ⟨g4, _, none⟩) N24.out _).trans hHeld.2.1))))), ((z0d (p := ⟨g4, _, none⟩) N84.out _).trans (((z0d (p := ⟨g4, _, none⟩) N84.out _).trans (((z0d (p := ⟨g4, _, none⟩) N84.out _).trans hHeld.2.2.1))))), ((z0d (p := ⟨g4, _, none⟩) N84.out _).trans (((z0d (p := ⟨g4, _, none⟩) N84.out _).trans (((z0d (p := ⟨g4, _, none⟩) N84.out _).trans hHeld.2.2.2.1))))), ((z0d (p := ⟨g4, _, none⟩) N84.out _).trans (((z0d (p := ⟨g4, _, none⟩) N84.out _).trans (((z0d (p := ⟨g4, _, none⟩) N84.out _).trans hHeld.2.2.2.2)))))⟩ (fun hHeld => ?_)
    clear hK K
    repeat (first | refine rP 11 ?_ | refine rT 11 hHeld ?_)
    refine z1e (by kernel_rfl) ?_
    go_wp2
    refine bodyPost_ret (z4q (rs := [.cell 4 33, .tmp 5, .tmp 6, .tmp 7]) rfl (by simp) (.cell g4 33 #[.int .i64 n, .bool a1, .slice Av acc.length cv] (0, 0) _ rfl (z0h (cs := #[.int .i64 n, .bool a1, .slice none 0 0]) (z0h (cs := #[.int .i64 n, .bool false, .slice none 0 0]) (z0h (cs := #[.int .i64 0, .bool false, .slice none 0 0]) r4 0 _ rfl) 1 _ rfl) 2 _ rfl) hu rfl (by kernel_rfl) (.tmp (.tmp (.tmp .nil))))) rfl ?_
    have st := x5q (n := n) (a3 := a3) (a4 := a4) n2 n5 b3 b5 b6
    have q8 := z7s (x := a5) (n := 8) b7 (by omega) (by decide)
    have hac := HAC.out
    exact ⟨n, acc, _, _, _, Av, cv, rfl, Kd.R_mono (Kd.R_far (p := ⟨g4, 2, none⟩) (Kd.R_far (p := ⟨g4, 1, none⟩) (Kd.R_far (p := ⟨g4, 0, none⟩) (Kd.R_types HZ.out.1 HZ.out.2.1 (by decide)) (fun _ hk => hk.2) (.int .i64 n)) (fun _ hk => hk.2) (.bool a1)) (fun _ hk => hk.2) (.slice Av acc.length cv)) (fun _ hk => trivial), ⟨n2, n5, by omega, HL.out.1⟩, st.1, st.2.1, st.2.2, ⟨q8.1, Int.le_of_lt_add_one q8.2⟩, q5 (q5 (q5 HZ.out.2.2.2 GE4.out) GE4.out) GE4.out⟩
  ·have c3 : ¬ (j : Int) < (l2.length : Int) := by omega
   have x3 : wr.cell? ⟨w.heap.size, 3, none⟩ = some (.int .u8 a3) := (y7 HL.out.2.2.1 3).trans rfl
   have x4 : wr.cell? ⟨w.heap.size, 4, none⟩ = some (.int .u8 a4) := (y7 HL.out.2.2.1 4).trans rfl
   have x5 : wr.cell? ⟨w.heap.size, 5, none⟩ = some (.int .u8 a5) := (y7 HL.out.2.2.1 5).trans rfl
   have y0 : wr.cell? ⟨g8, 0, none⟩ = some (.int .i64 n) := (y7 HL.out.2.2.2.2.1 0).trans rfl
   have y1 : wr.cell? ⟨g8, 1, none⟩ = some (.bool a1) := (y7 HL.out.2.2.2.2.1 1).trans rfl
   have y2 : wr.cell? ⟨g8, 2, none⟩ = some (.slice Av acc.length cv) := (y7 HL.out.2.2.2.2.1 2).trans rfl
   have hn0 : ¬ n = 0 := by omega
   have hn1 : ¬ IntKind.i64.wrap (n - 1) = 0 := by rw [IntWalk.i64_in _ (by omega)]; omega
   have HAC := zh hacc
   clear hacc
   go_wp2
   refine z1u (S := fun w' => w'.cell? ⟨w.heap.size, 4, none⟩ = some (.int .u8 a4) ∧ w'.cell? ⟨w.heap.size, 5, none⟩ = some (.int .u8 a5) ∧ w'.cell? ⟨g8, 0, none⟩ = some (.int .i64 n) ∧ w'.cell? ⟨g8, 1, none⟩ = some (.bool a1) ∧ w'.cell? ⟨g8, 2, none⟩ = some (.slice Av acc.length cv)) (ds := []) 14 (by kernel_rfl) rfl ⟨x4, x5, y0, y1, y2⟩ (fun hHeld => ?_)
   repeat (first | refine rP 14 ?_ | refine rT 14 hHeld ?_)
   refine z1e (by kernel_rfl) ?_
   go_wp2
   have r4 := n7 (n7 HL.out.2.2.2.1)
   refine z1u (S := fun w' => w'.cell? ⟨w.heap.size, 4, none⟩ = some (.int .u8 a4) ∧ w'.cell? ⟨w.heap.size, 5, none⟩ = some (.int .u8 a5) ∧ w'.cell? ⟨g8, 0, none⟩ = some (.int .i64 n) ∧ w'.cell? ⟨g8, 1, none⟩ = some (.bool a1) ∧ w'.cell? ⟨g8, 2, none⟩ = some (.slice Av acc.length cv)) (ds := []) 11 (by kernel_rfl) rfl ⟨x4, x5, y0, y1, y2⟩ (fun hHeld => ?_)
   repeat (first | refine rP 11 ?_ | refine rT 11 hHeld ?_)
   refine x0e 11 (N := none) rfl rfl (by kernel_rfl) (by decide) (fun K hK => ?_)
   have HZ := zh (And.intro (Kd.R_drew (Kd.R_drew HL.out.2.1)) (And.intro r4 (And.intro (n7 (n7 HL.out.2.2.2.2.1)) (q6 (q6 HL.out.2.2.2.2.2)))))
   generalize wr.drew.drew = wz at hHeld r4 HZ ⊢
   have z0 : wz.cell? ⟨g4, 0, none⟩ = some (.int .i64 0) := (y7 r4 0).trans rfl
   have z1 : wz.cell? ⟨g4, 1, none⟩ = some (.bool false) := (y7 r4 1).trans rfl
   have z2 : wz.cell? ⟨g4, 2, none⟩ = some (.slice none 0 0) := (y7 r4 2).trans rfl
   have f0 := j3 r4 0
   have f1 := j3 r4 1
   have f2 := j3 r4 2
   refine z54 (w1 := ?_) (by rfl) rfl ?_ ?_
   rotate_left
   ·go_simp
    rfl
   refine hK.out _ _ ⟨((z0d (p := ⟨g4, _, none⟩) N24.out _).trans (((z0d (p := ⟨g4, _, none⟩) N24.out _).trans (((z0d (p := ⟨g4, _, none⟩) N24.out _).trans hHeld.1))))), ((z0d (p := ⟨g4, _, none⟩) N24.out _).trans (((z0d (p := ⟨g4, _, none⟩) N24.out _).trans (((z0d (p := ⟨g4, _, none⟩) N24.out _).trans hHeld.2.1))))), ((z0d (p := ⟨g4, _, none⟩) N84.out _).trans (((z0d (p := ⟨g4, _, none⟩) N84.out _).trans (((z0d (p := ⟨g4, _, none⟩) N84.out _).trans hHeld.2.2.1))))), ((z0d (p := ⟨g4, _, none⟩) N84.out _).trans (((z0d (p := ⟨g4, _, none⟩) N84.out _).trans (((z0d (p := ⟨g4, _, none⟩) N84.out _).trans hHeld.2.2.2.1))))), ((z0d (p := ⟨g4, _, none⟩) N84.out _).trans (((z0d (p := ⟨g4, _, none⟩) N84.out _).trans (((z0d (p := ⟨g4, _, none⟩) N84.out _).trans hHeld.2.2.2.2)))))⟩ (fun hHeld => ?_)
   clear hK K
   repeat (first | refine rP 11 ?_ | refine rT 11 hHeld ?_)
   refine z1e (by kernel_rfl) ?_
   go_wp2
   refine bodyPost_ret (z4q (rs := [.cell 4 33, .tmp 5, .tmp 6, .tmp 7]) rfl (by simp) (.cell g4 33 #[.int .i64 n, .bool a1, .slice Av acc.length cv] (0, 0) _ rfl (z0h (cs := #[.int .i64 n, .bool a1, .slice none 0 0]) (z0h (cs := #[.int .i64 n, .bool false, .slice none 0 0]) (z0h (cs := #[.int .i64 0, .bool false, .slice none 0 0]) r4 0 _ rfl) 1 _ rfl) 2 _ rfl) hu rfl (by kernel_rfl) (.tmp (.tmp (.tmp .nil))))) rfl ?_
   have st := x5q (n := n) (a3 := a3) (a4 := a4) n2 n5 b3 b5 b6
   have q8 := z7s (x := a5) (n := 8) b7 (by omega) (by decide)
   have hac := HAC.out
   exact ⟨n, acc, _, _, _, Av, cv, rfl, Kd.R_mono (Kd.R_far (p := ⟨g4, 2, none⟩) (Kd.R_far (p := ⟨g4, 1, none⟩) (Kd.R_far (p := ⟨g4, 0, none⟩) (Kd.R_types HZ.out.1 HZ.out.2.1 (by decide)) (fun _ hk => hk.2) (.int .i64 n)) (fun _ hk => hk.2) (.bool a1)) (fun _ hk => hk.2) (.slice Av acc.length cv)) (fun _ hk => trivial), ⟨n2, n5, by omega, HL.out.1⟩, st.1, st.2.1, st.2.2, ⟨q8.1, Int.le_of_lt_add_one q8.2⟩, q5 (q5 (q5 HZ.out.2.2.2 GE4.out) GE4.out) GE4.out⟩
theorem y82 {W : World} {g base : Nat} {a b : Int} {ok : Nat → Prop} (hok : ok g) (hb : W.heap[g]? = some (.cells #[.int .i64 a, .int .i64 b] 59 (0, 0))) (hg : base ≤ g) : Kd.R z1v 59 W base ok (.slice (some ⟨g, 0, none⟩) 1 1) [⟨a, b⟩] := by
 refine ⟨fun k hk => ?_, [.int .i64 a, .int .i64 b], ⟨rfl, .inr ⟨g, 1, #[.int .i64 a, .int .i64 b], rfl, hg, hb, Nat.le_refl _, by decide, rfl, rfl⟩⟩, ⟨rfl, fun j p hj => ?_⟩⟩
 ·have : g = k := by simpa [Value.ownBlock] using hk
  subst this
  exact hok
 ·have hj0 : j = 0 := by have := (List.getElem?_eq_some_iff.1 hj).1; simpa using this
  subst hj0
  have e : (⟨a, b⟩ : Grp) = p := by simpa using hj
  subst e
  exact z8i _ _ _ ⟨a, b⟩
theorem y8u : (Tryz.prog.info? 59).map (fun i => (i.zero, i.size, i.bytes)) = some (some (.agg #[.int .i64 0, .int .i64 0]), 2, 16) := by kernel_rfl
structure RdI (w : World) (xs ys : Array Value) (g4 g8 : Nat) (vl : Value) (l : List Arc) (vp : Value) (p : List Grp) (vq : Value) (q : List Grp) (W : World) : Prop where
 rp : Kd.R z1v 59 W w.heap.size (fun k => some k ≠ vq.ownBlock) vp p
 rq : Kd.R z1v 59 W w.heap.size (fun k => some k ≠ vp.ownBlock) vq q
 rl : Kd.R z3l 104 W w.heap.size (fun _ => True) vl l
 bx : W.heap[w.heap.size]? = some (.cells xs 29 (0, 0))
 b4 : W.heap[g4]? = some (.cells #[.int .i64 0, .bool false, .slice none 0 0] 33 (0, 0))
 b8 : W.heap[g8]? = some (.cells ys 33 (0, 0))
 low : Below w.heap.size w W
section
variable {w : World} {xs ys : Array Value} {g4 g8 : Nat} {vl vp vq vp2 : Value} {l : List Arc} {p q p2 : List Grp} {W W1 : World}
theorem RdI.swap (h : RdI w xs ys g4 g8 vl l vp p vq q W) : RdI w xs ys g4 g8 vl l vq q vp p W := ⟨h.rq, h.rp, h.rl, h.bx, h.b4, h.b8, h.low⟩
theorem RdI.below (h : RdI w xs ys g4 g8 vl l vp p vq q W) (hb : Below W.heap.size W W1) : RdI w xs ys g4 g8 vl l vp p vq q W1 :=
 ⟨Kd.R_below h.rp hb, Kd.R_below h.rq hb, Kd.R_below h.rl hb, j5 h.bx hb, j5 h.b4 hb, j5 h.b8 hb, v6 h.low hb⟩
theorem RdI.grow (h : RdI w xs ys g4 g8 vl l vp p vq q W) (hg : W.grownBy W1 vp.ownBlock) (ho : Kd.R z1v 59 W1 w.heap.size (fun k => some k ≠ vq.ownBlock) vp2 p2) (hat : vp2.ownBlock = vp.ownBlock ∨ ∃ b, vp2.ownBlock = some b ∧ W.heap.size ≤ b) (hb : Below w.heap.size w W1) : RdI w xs ys g4 g8 vl l vp2 p2 vq q W1 :=
 ⟨ho, Kd.R_mono (Kd.R_after (v := vp) (ok := (fun _ => True)) (Kd.R_mono h.rq (fun _ hk => ⟨trivial, hk⟩)) hg hat) (fun _ hk => hk.2), Kd.R_over' h.rl (Kd.R_typed h.rp) (by decide) hg, z0b h.bx hg (Kd.R_ne h.rp h.bx (by decide)), z0b h.b4 hg (Kd.R_ne h.rp h.b4 (by decide)), z0b h.b8 hg (Kd.R_ne h.rp h.b8 (by decide)), hb⟩
theorem RdI.fresh (h : RdI w xs ys g4 g8 vl l vp p vq q W) (k : Nat) (hk : W.heap.size ≤ k) : some k ≠ vq.ownBlock := fun e => absurd (Kd.R_lt h.rq k e.symm) (by omega)
theorem RdI.first (h : RdI w xs ys g4 g8 vl l vp p vq q W) (hp : p ≠ []) : ∃ gm cm, vp = .slice (some ⟨gm, 0, none⟩) p.length cm ∧ W.cell? ⟨gm, 1, none⟩ = some (.int .i64 (z0q p 0).f1) ∧ W.frozen? ⟨gm, 1, none⟩ = false ∧
  ∀ k : Int, RdI w xs ys g4 g8 vl l vp (p.set (0 : Int).toNat ⟨(z0q p 0).f0, k⟩) vq q (W.setCell ⟨gm, 1, none⟩ (.int .i64 k)) := by
 obtain ⟨gm, cm, rfl, gm0, gm1, gmB⟩ := Kd.R_form h.rp (List.length_pos_iff.mpr hp)
 have i1 : (0 : Int) < (p.length : Int) := by have := List.length_pos_iff.mpr hp; omega
 obtain ⟨ce, hcl, hM, hcc, hfr⟩ := Kd.R_elem h.rp z59 0 (Int.le_refl _) i1
 obtain rfl := y8k hM
 refine ⟨gm, cm, rfl, hcc 1 _ rfl, hfr 1, fun k => ?_⟩
 have hs := Kd.R_seg h.rp 0 (Int.le_refl _) i1 (seg := [.int .i64 k]) (j := 1) hcl hcc (show 2 ≤ 2 from by decide) (x' := ⟨(p.getD (0 : Int).toNat z59).f0, k⟩) (z8i _ _ _ _) (fun _ hk => hk)
 simp only [World.setCells, show z1v.sz = 2 from rfl] at hs
 exact h.grow hs.2 hs.1 (.inl rfl) (q5 h.low gm0)
end
theorem y0f (v : Int) {l : List Grp} (h : ∀ g, g ∈ l → 0 ≤ g.f1) (hn : gOf v l < 0) : ∀ g, g ∈ l → g.f0 ≠ v := fun g hg e => by
 have h1 := (z2t v h).1 hn
 rw [z1j, List.any_eq_false] at h1
 exact h1 g hg (decide_eq_true e)
theorem z6y (p : List Grp) (g : Grp) : (p ++ [g]).length = p.length + 1 := by rw [List.length_append]; rfl
def x6l (m : Nat) (w : World) (e : Ending) (w' : World) : Prop :=
 ∃ (n h : Nat) (b : Bool) (l : List Arc) (p q : List Grp) (A : Option Addr) (c : Nat) (Ap : Option Addr) (cp : Nat) (Aq : Option Addr) (cq : Nat),
  e = .returned (.tuple #[.agg #[.int .i64 n, .bool b, .slice A l.length c], .slice Ap p.length cp, .slice Aq q.length cq, .int .i64 h]) ∧ Kd.C z3l w' A l.length l ∧ l.length ≤ c ∧ Kd.C z1v w' Ap p.length p ∧ p.length ≤ cp ∧ Kd.C z1v w' Aq q.length q ∧ q.length ≤ cq ∧
   x2s m n l ∧ GI n p q ∧ h ≤ 7 ∧ Below w.heap.size w w'
abbrev z1g (a0 : Int) (a1 : Bool) (l2 : List y93) (a3 a4 a5 : Int) (l6 l7 : List Int) (l8 : List y18) (l9 : List Int) (A2 : Option Addr) (c2 : Nat) (A6 : Option Addr) (c6 : Nat) (A7 : Option Addr) (c7 : Nat) (A8 : Option Addr) (c8 : Nat) (A9 : Option Addr) (c9 : Nat) : Array Value :=
 #[.int .u8 a0, .bool a1, .slice A2 l2.length c2, .int .u8 a3, .int .u8 a4, .int .u8 a5, .slice A6 l6.length c6, .slice A7 l7.length c7, .slice A8 l8.length c8, .slice A9 l9.length c9]
section
variable {a0 : Int} {a1 : Bool} {l2 : List y93} {a3 a4 a5 : Int} {l6 l7 : List Int} {l8 : List y18} {l9 : List Int} {A2 : Option Addr} {c2 : Nat} {A6 : Option Addr} {c6 : Nat} {A7 : Option Addr} {c7 : Nat} {A8 : Option Addr} {c8 : Nat} {A9 : Option Addr} {c9 : Nat} {w : World} {v : Value}
theorem z69.below (o : z69 w v a0 a1 l2 a3 a4 a5 l6 l7 l8 l9 A2 c2 A6 c6 A7 c7 A8 c8 A9 c9) {w' : World} (hb : Below w.heap.size w w') : z69 w' v a0 a1 l2 a3 a4 a5 l6 l7 l8 l9 A2 c2 A6 c6 A7 c7 A8 c8 A9 c9 :=
 ⟨o.is, o.u0, o.u3, o.u4, o.u5, Kd.C_below o.r2 hb, Kd.C_below o.r6 hb, Kd.C_below o.r7 hb, Kd.C_below o.r8 hb, Kd.C_below o.r9 hb, o.h2, o.h6, o.h7, o.h8, o.h9, o.u2, o.u6, o.u7, o.u8, o.u9⟩
theorem x35 (m : Nat) (i : Int) (hi : i = m) (hm : m ≤ 40) (o : z69 w v a0 a1 l2 a3 a4 a5 l6 l7 l8 l9 A2 c2 A6 c6 A7 c7 A8 c8 A9 c9) :
  Calls Tryz.prog 8 #[.agg #[.int .u8 a0, .bool a1, .slice A2 l2.length c2, .int .u8 a3, .int .u8 a4, .int .u8 a5, .slice A6 l6.length c6, .slice A7 l7.length c7, .slice A8 l8.length c8, .slice A9 l9.length c9], .int .i64 i] w (x6l m w) := by
 have HO := zh o
 have HI := zh hi
 have hu := Tryz.underlying33
 have hu2 := Tryz.underlying29
 have hu3 := Tryz.underlying59
 have hu4 := Tryz.underlying24
 clear o hi
 go_enter Tryz.func8, Tryz.ntmps8
 go_wp2_with (go_at_call 23; fail)
 obtain ⟨w1, hw1⟩ : ∃ w1, w1 = (w.alloc (.cells #[.int .u8 a0, .bool a1, .slice A2 l2.length c2, .int .u8 a3, .int .u8 a4, .int .u8 a5, .slice A6 l6.length c6, .slice A7 l7.length c7, .slice A8 l8.length c8, .slice A9 l9.length c9] 29)).alloc (.cells #[.int .i64 0, .bool false, .slice none 0 0] 33) := ⟨_, rfl⟩
 have HX2 : Hid (w1.heap[w.heap.size]? = some (.cells #[.int .u8 a0, .bool a1, .slice A2 l2.length c2, .int .u8 a3, .int .u8 a4, .int .u8 a5, .slice A6 l6.length c6, .slice A7 l7.length c7, .slice A8 l8.length c8, .slice A9 l9.length c9] 29 (0, 0))) := zh (by rw [hw1]; exact j9 (heap_alloc_new _ _) _)
 have HX4 : Hid (w1.heap[w.heap.size + 1]? = some (.cells #[.int .i64 0, .bool false, .slice none 0 0] 33 (0, 0))) := zh (by rw [hw1]; exact z01 (by simp))
 have HB1 : Hid (Below w.heap.size w w1) := zh (by rw [hw1]; exact y8 (y8 (Below.refl _ _) _) _)
 have HS1 : Hid (w1.heap.size = w.heap.size + 1 + 1) := zh (by rw [hw1]; simp)
 rw [← hw1]
 clear hw1
 go_upto_block 0 with (go_at_call 23; (with_reducible refine (y2w m (by omega) i HI.out a0 a1 A2 c2 l2 a3 a4 a5 _ ?s1 HO.out.u0 HO.out.u2 HO.out.u3 HO.out.u4 HO.out.u5).mono ?_); (case s1 => exact Kd.C_below HO.out.r2 HB1.out); rintro e w2 ⟨n, l, s, t, h, A, c, rfl, hR, hN, hs, ht, hst, hh, hb⟩; have HR := zh hR; have HN := zh hN; have HB2 := zh hb; have HST := zh hst; have HH := zh hh; have HSS := zh (And.intro hs ht); clear hR hN hs ht hst hh hb)
 obtain ⟨w3, hw3⟩ : ∃ w3, w3 = ((w2.alloc (.cells #[.int .i64 n, .bool a1, .slice A l.length c] 33)).alloc (.cells #[.int .i64 s, .int .i64 0] 59)).alloc (.cells #[.int .i64 t, .int .i64 0] 59) := ⟨_, rfl⟩
 obtain ⟨g8, hg8⟩ : ∃ g8, g8 = w2.heap.size := ⟨_, rfl⟩
 obtain ⟨g4, hg4⟩ : ∃ g4, g4 = w.heap.size + 1 := ⟨_, rfl⟩
 obtain ⟨gp, hgp⟩ : ∃ gp, gp = w2.heap.size + 1 := ⟨_, rfl⟩
 obtain ⟨gq, hgq⟩ : ∃ gq, gq = w2.heap.size + 1 + 1 := ⟨_, rfl⟩
 have hsz : w.heap.size + 1 + 1 ≤ w2.heap.size := by have := HS1.out; have := HB2.out.size; omega
 have HW3 : Hid (Below w2.heap.size w2 w3) := zh (by rw [hw3]; exact y8 (y8 (y8 (Below.refl _ _) _) _) _)
 have HR3 : Hid (Kd.R z3l 104 w3 w.heap.size (fun _ => True) (.slice A l.length c) l) := zh (Kd.R_below (Kd.R_lower HR.out (by have := HS1.out; omega)) HW3.out)
 have HP3 : Hid (Kd.R z1v 59 w3 w.heap.size (fun k => some k ≠ (Value.slice (some ⟨gq, 0, none⟩) 1 1).ownBlock) (.slice (some ⟨gp, 0, none⟩) 1 1) [⟨s, 0⟩]) := zh (y82 (by simp [Value.ownBlock]; omega) (by rw [hw3]; exact j9 (z01 (by rw [hgp]; simp)) _) (by omega))
 have HQ3 : Hid (Kd.R z1v 59 w3 w.heap.size (fun k => some k ≠ (Value.slice (some ⟨gp, 0, none⟩) 1 1).ownBlock) (.slice (some ⟨gq, 0, none⟩) 1 1) [⟨t, 0⟩]) := zh (y82 (by simp [Value.ownBlock]; omega) (by rw [hw3]; exact z01 (by rw [hgq]; simp)) (by omega))
 have HX3 : Hid (w3.heap[w.heap.size]? = some (.cells #[.int .u8 a0, .bool a1, .slice A2 l2.length c2, .int .u8 a3, .int .u8 a4, .int .u8 a5, .slice A6 l6.length c6, .slice A7 l7.length c7, .slice A8 l8.length c8, .slice A9 l9.length c9] 29 (0, 0))) := zh (j5 (j5 HX2.out HB2.out) HW3.out)
 have HX43 : Hid (w3.heap[g4]? = some (.cells #[.int .i64 0, .bool false, .slice none 0 0] 33 (0, 0))) := zh (by rw [hg4]; exact j5 (j5 HX4.out HB2.out) HW3.out)
 have HX83 : Hid (w3.heap[g8]? = some (.cells #[.int .i64 n, .bool a1, .slice A l.length c] 33 (0, 0))) := zh (by rw [hw3]; exact j9 (j9 (z01 hg8) _) _)
 have HB3 : Hid (Below w.heap.size w w3) := zh (v6 (v6 HB1.out HB2.out) HW3.out)
 have GE4 : Hid (w.heap.size ≤ g4) := zh (by omega)
 have N48 : Hid (g4 ≠ g8) := zh (by omega)
 have N24 : Hid (w.heap.size ≠ g4) := zh (by omega)
 rw [← hw3, ← hgq, ← hgp, ← hg8, ← hg4]
 clear hw3 hg8 hg4 hgp hgq hsz HW3 HR HX2 HX4 HB1 HB2 HS1
 have HI3 : Hid (RdI w #[.int .u8 a0, .bool a1, .slice A2 l2.length c2, .int .u8 a3, .int .u8 a4, .int .u8 a5, .slice A6 l6.length c6, .slice A7 l7.length c7, .slice A8 l8.length c8, .slice A9 l9.length c9] #[.int .i64 n, .bool a1, .slice A l.length c] g4 g8 (.slice A l.length c) l (.slice (some ⟨gp, 0, none⟩) 1 1) [⟨s, 0⟩] (.slice (some ⟨gq, 0, none⟩) 1 1) [⟨t, 0⟩] w3) := zh ⟨HP3.out, HQ3.out, HR3.out, HX3.out, HX43.out, HX83.out, HB3.out⟩
 have HG0 : Hid (GI n [⟨s, 0⟩] [⟨t, 0⟩]) := zh ⟨by simp, by simp, fun g hg => by
   obtain rfl := List.mem_singleton.1 hg
   exact ⟨HSS.out.1, Int.le_refl _, by show (0 : Int) ≤ 8; decide⟩, fun g hg => by
   obtain rfl := List.mem_singleton.1 hg
   exact ⟨HSS.out.2, Int.le_refl _, by show (0 : Int) ≤ 8; decide⟩, by simp, by simp, fun g hg x hx => by
   obtain rfl := List.mem_singleton.1 hg
   obtain rfl := List.mem_singleton.1 hx
   exact HST.out⟩
 have hs0 : 0 ≤ s := HSS.out.1.1
 have hs1 : s < n := HSS.out.1.2
 have ht0 : 0 ≤ t := HSS.out.2.1
 have ht1 : t < n := HSS.out.2.2
 have n2 : 2 ≤ n := HN.out.n2
 have n5 : n ≤ 5 := HN.out.n5
 have hn0 : ¬ n = 0 := by omega
 clear HP3 HQ3 HR3 HX3 HX43 HX83 HB3
 obtain ⟨q, hq0⟩ : ∃ q : List Grp, q = [⟨t, 0⟩] := ⟨_, rfl⟩
 obtain ⟨p0, hp0⟩ : ∃ p : List Grp, p = [⟨s, 0⟩] := ⟨_, rfl⟩
 have hql : q.length = 1 := by rw [hq0]; rfl
 have hpl : p0.length = 1 := by rw [hp0]; rfl
 obtain ⟨Aq, hAq⟩ : ∃ Aq : Option Addr, Aq = some ⟨gq, 0, none⟩ := ⟨_, rfl⟩
 obtain ⟨Ap, hAp⟩ : ∃ Ap : Option Addr, Ap = some ⟨gp, 0, none⟩ := ⟨_, rfl⟩
 rw [← hq0, ← hp0] at HI3 HG0
 rw [← hAq, ← hAp] at HI3 ⊢
 have HPL : Hid (p0.length = 1 ∧ q.length = 1) := zh ⟨hpl, hql⟩
 clear hql hpl hAq hAp hq0 hp0
 go_cut [12] from 14 (fun pv W => ∃ (X : List Grp) (AX : Option Addr) (cX : Nat), pv = .slice AX X.length cX ∧ Hid (GI n X q ∧ X.length ≤ 5 ∧ RdI w #[.int .u8 a0, .bool a1, .slice A2 l2.length c2, .int .u8 a3, .int .u8 a4, .int .u8 a5, .slice A6 l6.length c6, .slice A7 l7.length c7, .slice A8 l8.length c8, .slice A9 l9.length c9] #[.int .i64 n, .bool a1, .slice A l.length c] g4 g8 (.slice A l.length c) l (.slice AX X.length cX) X (.slice Aq 1 1) q W))
 case first =>
  go_wp2
  go_loopg [12, 14] 5 (fun k pv iv W => ∃ (j : Nat) (X : List Grp) (AX : Option Addr) (cX : Nat), j ≤ 4 ∧ pv = .slice AX X.length cX ∧ iv = .int .i64 j ∧ k = 5 - j ∧ Hid (GI n X q ∧ X.length ≤ j + 1 ∧ RdI w #[.int .u8 a0, .bool a1, .slice A2 l2.length c2, .int .u8 a3, .int .u8 a4, .int .u8 a5, .slice A6 l6.length c6, .slice A7 l7.length c7, .slice A8 l8.length c8, .slice A9 l9.length c9] #[.int .i64 n, .bool a1, .slice A l.length c] g4 g8 (.slice A l.length c) l (.slice AX X.length cX) X (.slice Aq 1 1) q W))
  case atStart => exact ⟨0, p0, Ap, 1, Nat.zero_le _, by rw [HPL.out.1], rfl, rfl, zh ⟨HG0.out, by rw [HPL.out.1]; decide, by rw [HPL.out.1]; exact HI3.out⟩⟩
  case round =>
   obtain ⟨j, X, AX, cX, hj, rfl, rfl, rfl, HL⟩ := hrel
   have x6 : wr.cell? ⟨w.heap.size, 6, none⟩ = some (.slice A6 l6.length c6) := (y7 HL.out.2.2.bx 6).trans rfl
   have y0 : wr.cell? ⟨g8, 0, none⟩ = some (.int .i64 n) := (y7 HL.out.2.2.b8 0).trans rfl
   have i0 : (0 : Int) ≤ (j : Int) := by omega
   by_cases c1 : (j : Int) < (l6.length : Int)
   ·by_cases c3 : (j : Int) < 4
    ·obtain ⟨ad, ea, z0⟩ := Kd.at_int (Kd.C_below HO.out.r6 HL.out.2.2.low) (j : Int) i0 c1
     subst ea
     rw [Int.toNat_natCast] at z0
     have hu8 := x5r HO.out.u6 (i := j) (by omega)
     obtain ⟨e0, he0⟩ : ∃ e0, e0 = rd l6 (j : Int) := ⟨_, rfl⟩
     rw [← he0] at z0 hu8
     obtain ⟨u0, u1⟩ : 0 ≤ e0 ∧ e0 ≤ 255 := hu8
     clear he0
     by_cases cj : (j : Int) = 0
     ·obtain ⟨gm, cm, e9, s0, s1, hset⟩ := HL.out.2.2.first HL.out.1.p0
      injection e9 with e1 e2 e3
      have hlen : 0 < X.length := List.length_pos_iff.mpr HL.out.1.p0
      have hlen2 : (0 : Int) < (X.length : Int) := by omega
      have HSET := zh hset
      have cj1 : ((j : Int) == 0) = true := by simpa using cj
      have cj2 : ((j : Int) != 0) = false := by simpa using cj
      clear hset cj e2 e3 hlen
      subst e1
      go_wp2
      go_roundg (4 - j)
      case measure => omega
      case rel => exact ⟨j + 1, X.set (0 : Int).toNat ⟨(z0q X 0).f0, e0 % 7⟩, some ⟨gm, 0, none⟩, cX, by omega, by rw [List.length_set], by go_num, by omega, zh ⟨HL.out.1.amend0 ⟨by omega, by omega⟩, by rw [List.length_set]; have := HL.out.2.1; omega, by rw [List.length_set]; exact HSET.out _⟩⟩
     ·have cj1 : ((j : Int) == 0) = false := by simpa using cj
      have cj2 : ((j : Int) != 0) = true := by simpa using cj
      clear cj
      obtain ⟨r1, hr1⟩ : ∃ r1, r1 = gOf ((s + 2 * (j : Int)) % n) X := ⟨_, rfl⟩
      obtain ⟨r2, hr2⟩ : ∃ r2, r2 = gOf ((s + 2 * (j : Int)) % n) q := ⟨_, rfl⟩
      have O1 := zh hr1
      have O2 := zh hr2
      clear hr1 hr2
      have HC1 := zh (Kd.R_reads' HL.out.2.2.rp).2.2
      have HC2 : Hid (Kd.C z1v wr Aq q.length q) := zh (Kd.R_reads' (show Kd.R z1v 59 wr w.heap.size _ (.slice Aq q.length 1) q by rw [HPL.out.2]; exact HL.out.2.2.rq)).2.2
      have HLX : Hid (X.length ≤ 5) := zh (by have := HL.out.2.1; omega)
      by_cases h1 : r1 < 0
      ·by_cases h2 : r2 < 0
       ·have HV1 := zh (y0f ((s + 2 * (j : Int)) % n) (fun g hm => (HL.out.1.gp g hm).2.1) (by rw [← O1.out]; exact h1))
        have HV2 := zh (y0f ((s + 2 * (j : Int)) % n) (fun g hm => (HL.out.1.gq g hm).2.1) (by rw [← O2.out]; exact h2))
        go_wp2_with (first
         |(go_at_call 24; (with_reducible refine (z0y X.length AX cX X _ _ ?s1 ?s2 ?s3).mono ?_); go_loud ((case s1 => rfl); (case s2 => exact HC1.out); (case s3 => have := HLX.out; omega); rintro e w4 ⟨rfl, hb⟩; rw [← O1.out]; have HI1 := zh (HL.out.2.2.below hb); have hb9 := hb; clear hb))
         |(go_at_call 24; (with_reducible refine (z0y 1 Aq 1 q _ _ ?s1 ?s2 ?s3).mono ?_); go_loud ((case s1 => exact HPL.out.2); (case s2 => exact Kd.C_below HC2.out hb9); (case s3 => decide); rintro e w5 ⟨rfl, hb⟩; rw [← O2.out]; have HI2 := zh (HI1.out.below hb); clear hb))
         |((with_reducible refine r5 (N := 81) rfl ?_); go_loud (refine Kd.R_append z1v (w0 := w) w.heap.size rfl (.tmp 76) (.tmp 80) 34 59 (.agg #[.int .i64 0, .int .i64 0]) 16 rfl Tryz.underlying34 y8u rfl (by decide) (by decide) (.slice AX X.length cX) X ⟨(s + 2 * (j : Int)) % n, e0 % 7⟩ [.int .i64 ((s + 2 * (j : Int)) % n), .int .i64 (e0 % 7)] (fun k => some k ≠ (Value.ownBlock (.slice Aq 1 1))) (fun _ => False) rfl ?aX ?aP (fun _ hk => hk.elim) ?aF ?aO ?aB ?aS ?aL ?_; (case aX => first | rfl | (simp; done) | (simp; rfl)); (case aP => exact z8i _ _ _ (⟨(s + 2 * (j : Int)) % n, e0 % 7⟩ : Grp)); (case aO => exact HI2.out.rp); (case aB => exact HI2.out.low); (case aS => exact HI2.out.low.size); (case aL => have := HLX.out; omega); (case aF => exact HI2.out.fresh); intro v1 w9 ho hb hg hat; obtain ⟨A1, cc1, e9⟩ := Kd.R_slice ho; rw [z6y] at e9; subst e9; have HS9 := zh (HI2.out.grow hg ho hat hb); clear ho hb hg hat)))
        have q8 : 0 ≤ (s + 2 * (j : Int)) % n ∧ (s + 2 * (j : Int)) % n < n := ⟨Int.emod_nonneg _ (by omega), Int.emod_lt_of_pos _ (by omega)⟩
        have q9 : 0 ≤ e0 % 7 ∧ e0 % 7 ≤ 8 := by omega
        go_roundg (4 - j)
        case measure => omega
        case rel => exact ⟨j + 1, X ++ [(⟨(s + 2 * (j : Int)) % n, e0 % 7⟩ : Grp)], A1, cc1, by omega, by rw [z6y], by first | rfl | go_num, by omega, zh ⟨HL.out.1.snoc (g := ⟨(s + 2 * (j : Int)) % n, e0 % 7⟩) ⟨q8, q9⟩ HV1.out HV2.out, by rw [z6y]; have := HL.out.2.1; omega, by rw [z6y]; exact HS9.out⟩⟩
       ·go_wp2_with (first
         |(go_at_call 24; (with_reducible refine (z0y X.length AX cX X _ _ ?s1 ?s2 ?s3).mono ?_); go_loud ((case s1 => rfl); (case s2 => exact HC1.out); (case s3 => have := HLX.out; omega); rintro e w4 ⟨rfl, hb⟩; rw [← O1.out]; have HI1 := zh (HL.out.2.2.below hb); have hb9 := hb; clear hb))
         |(go_at_call 24; (with_reducible refine (z0y 1 Aq 1 q _ _ ?s1 ?s2 ?s3).mono ?_); go_loud ((case s1 => exact HPL.out.2); (case s2 => exact Kd.C_below HC2.out hb9); (case s3 => decide); rintro e w5 ⟨rfl, hb⟩; rw [← O2.out]; have HI2 := zh (HI1.out.below hb); clear hb)))
        go_roundg (4 - j)
        case measure => omega
        case rel => exact ⟨j + 1, X, AX, cX, by omega, rfl, by first | rfl | go_num, by omega, zh ⟨HL.out.1, by have := HL.out.2.1; omega, HI2.out⟩⟩
      ·go_wp2_with (go_at_call 24; (with_reducible refine (z0y X.length AX cX X _ _ ?s1 ?s2 ?s3).mono ?_); go_loud ((case s1 => rfl); (case s2 => exact HC1.out); (case s3 => have := HLX.out; omega); rintro e w4 ⟨rfl, hb⟩; rw [← O1.out]; have HI1 := zh (HL.out.2.2.below hb); have hb9 := hb; clear hb))
       go_roundg (4 - j)
       case measure => omega
       case rel => exact ⟨j + 1, X, AX, cX, by omega, rfl, by first | rfl | go_num, by omega, zh ⟨HL.out.1, by have := HL.out.2.1; omega, HI1.out⟩⟩
    ·go_wp2
     go_meet
     case rel => exact ⟨X, AX, cX, rfl, zh ⟨HL.out.1, by have := HL.out.2.1; omega, HL.out.2.2⟩⟩
   ·go_wp2
    go_meet
    case rel => exact ⟨X, AX, cX, rfl, zh ⟨HL.out.1, by have := HL.out.2.1; omega, HL.out.2.2⟩⟩
 case rest =>
 obtain ⟨p, Ap, cp, rfl, HP1⟩ := hcut
 clear HI3 HG0
 go_upto_block 2 with (fail)
 go_cut [13] from 17 (fun pv W => ∃ (X : List Grp) (AX : Option Addr) (cX : Nat), pv = .slice AX X.length cX ∧ Hid (GI n X p ∧ X.length ≤ 5 ∧ RdI w #[.int .u8 a0, .bool a1, .slice A2 l2.length c2, .int .u8 a3, .int .u8 a4, .int .u8 a5, .slice A6 l6.length c6, .slice A7 l7.length c7, .slice A8 l8.length c8, .slice A9 l9.length c9] #[.int .i64 n, .bool a1, .slice A l.length c] g4 g8 (.slice A l.length c) l (.slice AX X.length cX) X (.slice Ap p.length cp) p W))
 case first =>
  go_wp2
  go_loopg [13, 17] 5 (fun k pv iv W => ∃ (j : Nat) (X : List Grp) (AX : Option Addr) (cX : Nat), j ≤ 4 ∧ pv = .slice AX X.length cX ∧ iv = .int .i64 j ∧ k = 5 - j ∧ Hid (GI n X p ∧ X.length ≤ j + 1 ∧ RdI w #[.int .u8 a0, .bool a1, .slice A2 l2.length c2, .int .u8 a3, .int .u8 a4, .int .u8 a5, .slice A6 l6.length c6, .slice A7 l7.length c7, .slice A8 l8.length c8, .slice A9 l9.length c9] #[.int .i64 n, .bool a1, .slice A l.length c] g4 g8 (.slice A l.length c) l (.slice AX X.length cX) X (.slice Ap p.length cp) p W))
  case atStart => exact ⟨0, q, Aq, 1, Nat.zero_le _, by rw [HPL.out.2], rfl, rfl, zh ⟨HP1.out.1.swap, by rw [HPL.out.2]; decide, by rw [HPL.out.2]; exact HP1.out.2.2.swap⟩⟩
  case round =>
   obtain ⟨j, X, AX, cX, hj, rfl, rfl, rfl, HL⟩ := hrel
   have x6 : wr.cell? ⟨w.heap.size, 7, none⟩ = some (.slice A7 l7.length c7) := (y7 HL.out.2.2.bx 7).trans rfl
   have y0 : wr.cell? ⟨g8, 0, none⟩ = some (.int .i64 n) := (y7 HL.out.2.2.b8 0).trans rfl
   have i0 : (0 : Int) ≤ (j : Int) := by omega
   by_cases c1 : (j : Int) < (l7.length : Int)
   ·by_cases c3 : (j : Int) < 4
    ·obtain ⟨ad, ea, z0⟩ := Kd.at_int (Kd.C_below HO.out.r7 HL.out.2.2.low) (j : Int) i0 c1
     subst ea
     rw [Int.toNat_natCast] at z0
     have hu8 := x5r HO.out.u7 (i := j) (by omega)
     obtain ⟨e0, he0⟩ : ∃ e0, e0 = rd l7 (j : Int) := ⟨_, rfl⟩
     rw [← he0] at z0 hu8
     obtain ⟨u0, u1⟩ : 0 ≤ e0 ∧ e0 ≤ 255 := hu8
     clear he0
     by_cases cj : (j : Int) = 0
     ·obtain ⟨gm, cm, e9, s0, s1, hset⟩ := HL.out.2.2.first HL.out.1.p0
      injection e9 with e1 e2 e3
      have hlen : 0 < X.length := List.length_pos_iff.mpr HL.out.1.p0
      have hlen2 : (0 : Int) < (X.length : Int) := by omega
      have HSET := zh hset
      have cj1 : ((j : Int) == 0) = true := by simpa using cj
      have cj2 : ((j : Int) != 0) = false := by simpa using cj
      clear hset cj e2 e3 hlen
      subst e1
      go_wp2
      go_roundg (4 - j)
      case measure => omega
      case rel => exact ⟨j + 1, X.set (0 : Int).toNat ⟨(z0q X 0).f0, e0 % 9⟩, some ⟨gm, 0, none⟩, cX, by omega, by rw [List.length_set], by go_num, by omega, zh ⟨HL.out.1.amend0 ⟨by omega, by omega⟩, by rw [List.length_set]; have := HL.out.2.1; omega, by rw [List.length_set]; exact HSET.out _⟩⟩
     ·have cj1 : ((j : Int) == 0) = false := by simpa using cj
      have cj2 : ((j : Int) != 0) = true := by simpa using cj
      clear cj
      obtain ⟨r1, hr1⟩ : ∃ r1, r1 = gOf ((t + (j : Int)) % n) p := ⟨_, rfl⟩
      obtain ⟨r2, hr2⟩ : ∃ r2, r2 = gOf ((t + (j : Int)) % n) X := ⟨_, rfl⟩
      have O1 := zh hr1
      have O2 := zh hr2
      clear hr1 hr2
      have HC1 := zh (Kd.R_reads' HL.out.2.2.rp).2.2
      have HC2 : Hid (Kd.C z1v wr Ap p.length p) := zh (Kd.R_reads' (show Kd.R z1v 59 wr w.heap.size _ (.slice Ap p.length cp) p by  exact HL.out.2.2.rq)).2.2
      have HLX : Hid (X.length ≤ 5) := zh (by have := HL.out.2.1; omega)
      by_cases h1 : r1 < 0
      ·by_cases h2 : r2 < 0
       ·have HV1 := zh (y0f ((t + (j : Int)) % n) (fun g hm => (HL.out.1.gq g hm).2.1) (by rw [← O1.out]; exact h1))
        have HV2 := zh (y0f ((t + (j : Int)) % n) (fun g hm => (HL.out.1.gp g hm).2.1) (by rw [← O2.out]; exact h2))
        go_wp2_with (first
         |(go_at_call 24; (with_reducible refine (z0y p.length Ap cp p _ _ ?s1 ?s2 ?s3).mono ?_); go_loud ((case s1 => exact rfl); (case s2 => exact HC2.out); (case s3 => have := HP1.out.2.1; omega); rintro e w4 ⟨rfl, hb⟩; rw [← O1.out]; have HI1 := zh (HL.out.2.2.below hb); have hb9 := hb; clear hb))
         |(go_at_call 24; (with_reducible refine (z0y X.length AX cX X _ _ ?s1 ?s2 ?s3).mono ?_); go_loud ((case s1 => rfl); (case s2 => exact Kd.C_below HC1.out hb9); (case s3 => have := HLX.out; omega); rintro e w5 ⟨rfl, hb⟩; rw [← O2.out]; have HI2 := zh (HI1.out.below hb); clear hb))
         |((with_reducible refine r5 (N := 127) rfl ?_); go_loud (refine Kd.R_append z1v (w0 := w) w.heap.size rfl (.tmp 122) (.tmp 126) 34 59 (.agg #[.int .i64 0, .int .i64 0]) 16 rfl Tryz.underlying34 y8u rfl (by decide) (by decide) (.slice AX X.length cX) X ⟨(t + (j : Int)) % n, e0 % 9⟩ [.int .i64 ((t + (j : Int)) % n), .int .i64 (e0 % 9)] (fun k => some k ≠ (Value.ownBlock (.slice Ap p.length cp))) (fun _ => False) rfl ?aX ?aP (fun _ hk => hk.elim) ?aF ?aO ?aB ?aS ?aL ?_; (case aX => first | rfl | (simp; done) | (simp; rfl)); (case aP => exact z8i _ _ _ (⟨(t + (j : Int)) % n, e0 % 9⟩ : Grp)); (case aO => exact HI2.out.rp); (case aB => exact HI2.out.low); (case aS => exact HI2.out.low.size); (case aL => have := HLX.out; omega); (case aF => exact HI2.out.fresh); intro v1 w9 ho hb hg hat; obtain ⟨A1, cc1, e9⟩ := Kd.R_slice ho; rw [z6y] at e9; subst e9; have HS9 := zh (HI2.out.grow hg ho hat hb); clear ho hb hg hat)))
        have q8 : 0 ≤ (t + (j : Int)) % n ∧ (t + (j : Int)) % n < n := ⟨Int.emod_nonneg _ (by omega), Int.emod_lt_of_pos _ (by omega)⟩
        have q9 : 0 ≤ e0 % 9 ∧ e0 % 9 ≤ 8 := by omega
        go_roundg (4 - j)
        case measure => omega
        case rel => exact ⟨j + 1, X ++ [(⟨(t + (j : Int)) % n, e0 % 9⟩ : Grp)], A1, cc1, by omega, by rw [z6y], by first | rfl | go_num, by omega, zh ⟨HL.out.1.snoc (g := ⟨(t + (j : Int)) % n, e0 % 9⟩) ⟨q8, q9⟩ HV2.out HV1.out, by rw [z6y]; have := HL.out.2.1; omega, by rw [z6y]; exact HS9.out⟩⟩
       ·go_wp2_with (first
         |(go_at_call 24; (with_reducible refine (z0y p.length Ap cp p _ _ ?s1 ?s2 ?s3).mono ?_); go_loud ((case s1 => exact rfl); (case s2 => exact HC2.out); (case s3 => have := HP1.out.2.1; omega); rintro e w4 ⟨rfl, hb⟩; rw [← O1.out]; have HI1 := zh (HL.out.2.2.below hb); have hb9 := hb; clear hb))
         |(go_at_call 24; (with_reducible refine (z0y X.length AX cX X _ _ ?s1 ?s2 ?s3).mono ?_); go_loud ((case s1 => rfl); (case s2 => exact Kd.C_below HC1.out hb9); (case s3 => have := HLX.out; omega); rintro e w5 ⟨rfl, hb⟩; rw [← O2.out]; have HI2 := zh (HI1.out.below hb); clear hb)))
        go_roundg (4 - j)
        case measure => omega
        case rel => exact ⟨j + 1, X, AX, cX, by omega, rfl, by first | rfl | go_num, by omega, zh ⟨HL.out.1, by have := HL.out.2.1; omega, HI2.out⟩⟩
      ·go_wp2_with (go_at_call 24; (with_reducible refine (z0y p.length Ap cp p _ _ ?s1 ?s2 ?s3).mono ?_); go_loud ((case s1 => exact rfl); (case s2 => exact HC2.out); (case s3 => have := HP1.out.2.1; omega); rintro e w4 ⟨rfl, hb⟩; rw [← O1.out]; have HI1 := zh (HL.out.2.2.below hb); have hb9 := hb; clear hb))
       go_roundg (4 - j)
       case measure => omega
       case rel => exact ⟨j + 1, X, AX, cX, by omega, rfl, by first | rfl | go_num, by omega, zh ⟨HL.out.1, by have := HL.out.2.1; omega, HI1.out⟩⟩
    ·go_wp2
     go_meet
     case rel => exact ⟨X, AX, cX, rfl, zh ⟨HL.out.1, by have := HL.out.2.1; omega, HL.out.2.2⟩⟩
   ·go_wp2
    go_meet
    case rel => exact ⟨X, AX, cX, rfl, zh ⟨HL.out.1, by have := HL.out.2.1; omega, HL.out.2.2⟩⟩
 case rest =>
 obtain ⟨q, Aq, cq, rfl, HQ1⟩ := hcut
 clear HP1
 have y0 : wc.cell? ⟨g8, 0, none⟩ = some (.int .i64 n) := (y7 HQ1.out.2.2.b8 0).trans rfl
 have y1 : wc.cell? ⟨g8, 1, none⟩ = some (.bool a1) := (y7 HQ1.out.2.2.b8 1).trans rfl
 have y2 : wc.cell? ⟨g8, 2, none⟩ = some (.slice A l.length c) := (y7 HQ1.out.2.2.b8 2).trans rfl
 have b4 := HQ1.out.2.2.b4
 have z0 : wc.cell? ⟨g4, 0, none⟩ = some (.int .i64 0) := (y7 b4 0).trans rfl
 have z1 : wc.cell? ⟨g4, 1, none⟩ = some (.bool false) := (y7 b4 1).trans rfl
 have z2 : wc.cell? ⟨g4, 2, none⟩ = some (.slice none 0 0) := (y7 b4 2).trans rfl
 have fz0 := j3 b4 0
 have fz1 := j3 b4 1
 have fz2 := j3 b4 2
 go_wp2
 have r0 := z0h (cs := #[.int .i64 0, .bool false, .slice none 0 0]) b4 0 (.int .i64 n) rfl
 have r1 := z0h (cs := #[.int .i64 n, .bool false, .slice none 0 0]) r0 1 (.bool a1) rfl
 have r2 := z0h (cs := #[.int .i64 n, .bool a1, .slice none 0 0]) r1 2 (.slice A l.length c) rfl
 refine bodyPost_ret (z4q (rs := [.cell 4 33, .tmp 5, .tmp 6, .tmp 7]) rfl (by simp) (.cell g4 33 #[.int .i64 n, .bool a1, .slice A l.length c] (0, 0) _ rfl r2 hu rfl (by kernel_rfl) (.tmp (.tmp (.tmp .nil))))) rfl ?_
 have hL := Kd.R_reads' (Kd.R_set (Kd.R_set (Kd.R_set HQ1.out.2.2.rl b4 (by decide) 0 (.int .i64 n)) r0 (by decide) 1 (.bool a1)) r1 (by decide) 2 (.slice A l.length c))
 have hP := Kd.R_reads' (Kd.R_set (Kd.R_set (Kd.R_set HQ1.out.2.2.rq b4 (by decide) 0 (.int .i64 n)) r0 (by decide) 1 (.bool a1)) r1 (by decide) 2 (.slice A l.length c))
 have hQ := Kd.R_reads' (Kd.R_set (Kd.R_set (Kd.R_set HQ1.out.2.2.rp b4 (by decide) 0 (.int .i64 n)) r0 (by decide) 1 (.bool a1)) r1 (by decide) 2 (.slice A l.length c))
 obtain ⟨nn, hnn⟩ := Int.eq_ofNat_of_zero_le (show 0 ≤ n by omega)
 have hh := HH.out
 obtain ⟨hn, hhn⟩ := Int.eq_ofNat_of_zero_le hh.1
 subst hnn hhn
 exact ⟨nn, hn, a1, l, p, q, A, c, Ap, cp, Aq, cq, rfl, hL.2.2, hL.2.1, hP.2.2, hP.2.1, hQ.2.2, hQ.2.1, HN.out, HQ1.out.1.swap, by have := hh.2; omega, q5 (q5 (q5 HQ1.out.2.2.low GE4.out) GE4.out) GE4.out⟩
end
end Go.Proofs.YtcgdloldkcmhnaaGreat.H
end
section
namespace Go.Proofs.YtcgdloldkcmhnaaGreat.H
open Go Go.RowKit Go.Proofs.YtcgdloldkcmhnaaGreat.PrintC Go.Proofs.YtcgdloldkcmhnaaGreat.PrintE Go.Proofs.YtcgdloldkcmhnaaGreatW.PrintWords Go.Proofs.YtcgdloldkcmhnaaGreatW.PrintLast Go.Proofs.YtcgdloldkcmhnaaGreatW.PrintMore
theorem y3s : x5f Tryz.prog z35 50 110 (fun x => [.int .i64 x.f0, .int .i64 x.f1]) := ⟨Tryz.underlying50, ⟨_, 16, y4p, rfl, by decide, by decide⟩, by decide, y4n⟩
set_option linter.unusedVariables false
set_option linter.unusedSimpArgs false
def Two (g g2 : Nat) (cs ns : Array Value) (W : World) : Prop := W.heap[g]? = some (.cells cs 29 (0, 0)) ∧ W.heap[g2]? = some (.cells ns 33 (0, 0))
theorem Two.below {g g2 : Nat} {cs ns : Array Value} {W W1 : World} (h : Two g g2 cs ns W) (hb : Below W.heap.size W W1) : Two g g2 cs ns W1 := ⟨j5 h.1 hb, j5 h.2 hb⟩
theorem Two.drew {g g2 : Nat} {cs ns : Array Value} {W : World} (h : Two g g2 cs ns W) : Two g g2 cs ns W.drew := ⟨n7 h.1, n7 h.2⟩
def CMvAt (w : World) (e : Ending) (w' : World) : Prop := ∃ (L : List Mv) (A1 : Option Addr) (c1 : Nat), e = .returned (.slice A1 L.length c1) ∧ Kd.R kMv 76 w' w.heap.size (fun _ => True) (.slice A1 L.length c1) L ∧ L.length ≤ 20 ∧ (∀ x, x ∈ L → -9223372036854775808 ≤ x.f2 ∧ x.f2 ≤ 9223372036854775807) ∧ (∀ x, x ∈ L → Wf x.f0 ∧ Wf x.f1) ∧ Below w.heap.size w w'
section
variable {a0 : Int} {a1 : Bool} {l2 : List y93} {a3 a4 a5 : Int} {l6 l7 : List Int} {l8 : List y18} {l9 : List Int} {A2 : Option Addr} {c2 : Nat} {A6 : Option Addr} {c6 : Nat} {A7 : Option Addr} {c7 : Nat} {A8 : Option Addr} {c8 : Nat} {A9 : Option Addr} {c9 : Nat} {w : World} {v : Value}
theorem y3i (o : z69 w v a0 a1 l2 a3 a4 a5 l6 l7 l8 l9 A2 c2 A6 c6 A7 c7 A8 c8 A9 c9) (n : Int) (b : Bool) (A : Option Addr) (c k h : Nat) (hk : k ≤ 1000000) (hh : h ≤ 100000) :
  Calls Tryz.prog 20 #[.agg (z1g a0 a1 l2 a3 a4 a5 l6 l7 l8 l9 A2 c2 A6 c6 A7 c7 A8 c8 A9 c9), .agg #[.int .i64 n, .bool b, .slice A k c], .int .i64 h] w (CMvAt w) := by
 have HC8 := zh o.r8
 have HU8 := zh o.u8
 have hu := Tryz.underlying33
 have hu2 := Tryz.underlying29
 have hu3 := Tryz.underlying107
 have hu4 := Tryz.underlying76
 clear o
 go_enter Tryz.func20, Tryz.ntmps20
 obtain ⟨w1, hw1⟩ : ∃ w1, w1 = (w.alloc (.cells (z1g a0 a1 l2 a3 a4 a5 l6 l7 l8 l9 A2 c2 A6 c6 A7 c7 A8 c8 A9 c9) 29)).alloc (.cells #[.int .i64 n, .bool b, .slice A k c] 33) := ⟨_, rfl⟩
 have HX : Hid (w1.heap[w.heap.size]? = some (.cells (z1g a0 a1 l2 a3 a4 a5 l6 l7 l8 l9 A2 c2 A6 c6 A7 c7 A8 c8 A9 c9) 29 (0, 0)) ∧ w1.heap[w.heap.size + 1]? = some (.cells #[.int .i64 n, .bool b, .slice A k c] 33 (0, 0)) ∧ Below w.heap.size w w1) := zh (by
  rw [hw1]
  exact ⟨j9 (heap_alloc_new _ _) _, z01 (by rw [z0k]), y8 (y8 (Below.refl _ _) _) _⟩)
 go_wp2
 rw [← hw1]
 clear hw1
 have e1 : IntKind.i64.wrap ((h : Int) + 1) = (h : Int) + 1 := IntWalk.i64_in _ (by omega)
 go_loopg [7, 8] 21 (fun m ov iv W => ∃ (i : Nat) (L : List Mv) (Ao : Option Addr) (co : Nat), i ≤ 20 ∧ ov = .slice Ao L.length co ∧ iv = .int .i64 i ∧ m = 21 - i ∧ Hid (L.length = i ∧ Kd.R kMv 76 W w.heap.size (fun _ => True) (.slice Ao L.length co) L ∧ (∀ x, x ∈ L → (-9223372036854775808 ≤ x.f2 ∧ x.f2 ≤ 9223372036854775807) ∧ Wf x.f0 ∧ Wf x.f1) ∧ W.heap[w.heap.size]? = some (.cells (z1g a0 a1 l2 a3 a4 a5 l6 l7 l8 l9 A2 c2 A6 c6 A7 c7 A8 c8 A9 c9) 29 (0, 0)) ∧ W.heap[w.heap.size + 1]? = some (.cells #[.int .i64 n, .bool b, .slice A k c] 33 (0, 0)) ∧ Below w.heap.size w W))
 case atStart => exact ⟨0, [], none, 0, by omega, rfl, rfl, rfl, zh ⟨rfl, Kd.R_nil _ _ _ _ _, fun x hx => (nomatch hx), HX.out⟩⟩
 case round =>
  obtain ⟨i, L, Ao, co, hi, rfl, rfl, rfl, HL⟩ := hrel
  clear HX
  have x8 : wr.cell? ⟨w.heap.size, 8, none⟩ = some (.slice A8 l8.length c8) := (y7 HL.out.2.2.2.1 8).trans rfl
  have y2 : wr.cell? ⟨w.heap.size + 1, 2, none⟩ = some (.slice A k c) := (y7 HL.out.2.2.2.2.1 2).trans rfl
  have hc : (¬ (i : Int) < (l8.length : Int)) ∨ ((i : Int) < (l8.length : Int) ∧ ¬ (i : Int) < 20) ∨ ((i : Int) < (l8.length : Int) ∧ (i : Int) < 20 ∧ ¬ (0 : Int) < (k : Int)) ∨ ((i : Int) < (l8.length : Int) ∧ (i : Int) < 20 ∧ (0 : Int) < (k : Int)) := by omega
  rcases hc with c1 | ⟨c1, c2⟩ | ⟨c1, c2, c3⟩ | ⟨c1, c2, c3⟩
  iterate 2
   ·go_wp2
    go_ret
    exact ⟨L, Ao, co, rfl, HL.out.2.1, by have := HL.out.1; omega, fun x hx => (HL.out.2.2.1 x hx).1, fun x hx => (HL.out.2.2.1 x hx).2, HL.out.2.2.2.2.2⟩
  ·have hk0 : k = 0 := by omega
   subst hk0
   go_wp2
   go_ret
   exact ⟨L, Ao, co, rfl, HL.out.2.1, by have := HL.out.1; omega, fun x hx => (HL.out.2.2.1 x hx).1, fun x hx => (HL.out.2.2.1 x hx).2, HL.out.2.2.2.2.2⟩
  ·have i0 : (0 : Int) ≤ (i : Int) := by omega
   have hk1 : 0 < k := by omega
   obtain ⟨ad, ea, z0, z1, z2⟩ := x43 (Kd.C_drew (Kd.C_below HC8.out HL.out.2.2.2.2.2)) (i : Int) i0 c1
   subst ea
   rw [Int.toNat_natCast] at z0 z1 z2
   obtain ⟨s, hs⟩ : ∃ s, s = z8a l8 (i : Int) := ⟨_, rfl⟩
   have hsu := HU8.out s (by
    rw [hs]
    unfold z8a
    rw [Int.toNat_natCast, List.getD_eq_getElem?_getD, List.getElem?_eq_getElem (by omega)]
    exact List.getElem_mem _)
   rw [← hs] at z0 z1 z2
   clear hs
   have u0 := hsu.1
   have u1 := hsu.2.1
   have u2 := hsu.2.2
   unfold U8 at u0 u1 u2
   clear hsu
   have e2 : IntKind.i64.wrap s.f0 = s.f0 := IntWalk.i64_in _ (by omega)
   have e3 : IntKind.i64.wrap s.f1 = s.f1 := IntWalk.i64_in _ (by omega)
   have e4 : IntKind.i64.wrap s.f2 = s.f2 := IntWalk.i64_in _ (by omega)
   obtain ⟨r0, h0⟩ : ∃ r0, s.f0.tmod (k : Int) = r0 := ⟨_, rfl⟩
   obtain ⟨r1, h1⟩ : ∃ r1, s.f1.tmod ((h : Int) + 1) = r1 := ⟨_, rfl⟩
   obtain ⟨r2, h2⟩ : ∃ r2, s.f2.tmod 4 = r2 := ⟨_, rfl⟩
   have hnz : ¬ k = 0 := by omega
   have hr2 : Hid ((-4 < r2 ∧ r2 < 4) ∧ Wf r0 ∧ Wf r1) := zh (by
    rw [Int.tmod_eq_emod_of_nonneg (by omega)] at h0 h1 h2
    have p0 := Int.emod_nonneg s.f0 (show (k : Int) ≠ 0 by omega)
    have p1 := Int.emod_lt_of_pos s.f0 (show (0 : Int) < (k : Int) by omega)
    have p2 := Int.emod_nonneg s.f1 (show (h : Int) + 1 ≠ 0 by omega)
    have p3 := Int.emod_lt_of_pos s.f1 (show (0 : Int) < (h : Int) + 1 by omega)
    exact ⟨by omega, z0o (by omega) (by omega), z0o (by omega) (by omega)⟩)
   have hnz2 : ¬ (h : Int) + 1 = 0 := by omega
   have x9 : wr.drew.cell? ⟨w.heap.size, 8, none⟩ = some (.slice (some ad) l8.length c8) := (y7 (n7 HL.out.2.2.2.1) 8).trans rfl
   have y9 : wr.drew.cell? ⟨w.heap.size + 1, 2, none⟩ = some (.slice A k c) := (y7 (n7 HL.out.2.2.2.2.1) 2).trans rfl
   have HB := zh (And.intro (Kd.R_drew HL.out.2.1) (And.intro (n7 HL.out.2.2.2.1) (And.intro (n7 HL.out.2.2.2.2.1) (q6 HL.out.2.2.2.2.2))))
   have HLL := zh (And.intro HL.out.1 HL.out.2.2.1)
   clear HL
   go_wp2
   refine z1u (S := fun w' => w'.cell? ⟨w.heap.size, 8, none⟩ = some (.slice (some ad) l8.length c8) ∧ w'.cell? ⟨w.heap.size + 1, 2, none⟩ = some (.slice A k c) ∧ w'.cell? (ad.add (i * 3)) = some (.int .u8 s.f0) ∧ w'.cell? ⟨(ad.add (i * 3)).block, (ad.add (i * 3)).off + 1, none⟩ = some (.int .u8 s.f1) ∧ w'.cell? ⟨(ad.add (i * 3)).block, (ad.add (i * 3)).off + 2, none⟩ = some (.int .u8 s.f2)) (ds := [32]) 34 (by kernel_rfl) rfl ⟨x9, y9, z0, z1, z2⟩ (fun hHeld => ?_)
   generalize wr.drew = wd at HB hHeld ⊢
   clear x8 y2 x9 y9 z0 z1 z2
   repeat (first | refine rP 34 ?_ | refine rT 34 hHeld ?_)
   refine sB 31 hHeld (fun hHeld => ?_)
   refine sA 32 x6e L ⟨r0, r1, r2⟩ HB.out.1 HB.out.2.2.2 HB.out.2.2.2.size (by have := HLL.out.1; omega) (fun A1 c1 w9 ho hb hg => ?_)
   refine sN ?_
   refine rP 34 ?_
   refine z1e (by kernel_rfl) ?_
   have HF := zh (And.intro ho (And.intro hb (And.intro (z0b HB.out.2.1 hg (Kd.R_ne HB.out.1 HB.out.2.1 (by decide))) (z0b HB.out.2.2.1 hg (Kd.R_ne HB.out.1 HB.out.2.2.1 (by decide))))))
   clear ho hb hg hHeld HB
   go_wp2
   go_roundg (20 - i)
   case measure => omega
   case rel => exact ⟨i + 1, L ++ [⟨r0, r1, r2⟩], A1, c1, by omega, by rw [List.length_append]; rfl, by go_num, by omega, zh ⟨by rw [List.length_append, HLL.out.1]; rfl, by rw [List.length_append]; exact HF.out.1, fun x hx => by
    rcases List.mem_append.1 hx with hx | hx
    ·exact HLL.out.2 x hx
    ·rw [List.mem_singleton] at hx
     subst hx
     have h9 := hr2.out.1
     exact ⟨⟨by show (-9223372036854775808 : Int) ≤ r2; omega, by show r2 ≤ (9223372036854775807 : Int); omega⟩, hr2.out.2⟩, HF.out.2.2.1, HF.out.2.2.2, HF.out.2.1⟩⟩
theorem y66 {n : Int} (h : (Lit.int .u16 n).wf = true) : 0 ≤ n ∧ n ≤ 65535 := by
 simp [Lit.wf, IntKind.min, IntKind.max, IntKind.signed, IntKind.bits] at h
 omega
structure CSl (n h : Nat) (keeps : Nat → Bool) (tv : Nat → Int) (Z V : Nat) (X : List z3p) : Prop where
 ok : ∀ s, s ∈ X → z1y n h s
 up : ∀ s, s ∈ X → s.f1 < Z ∨ (s.f1 = Z ∧ s.f0 < V)
 ke : ∀ v z : Nat, v < n → (z < Z ∨ (z = Z ∧ v < V)) → keeps v = true → z28 X v z = decide (tv v ≤ z)
 le : X.length ≤ Z * n + V
theorem CSl.zero (n h : Nat) (keeps : Nat → Bool) (tv : Nat → Int) : CSl n h keeps tv 0 0 [] :=
 ⟨fun _ h => (nomatch h), fun _ h => (nomatch h), fun v z _ h => absurd h (by omega), Nat.zero_le _⟩
theorem CSl.row {n h : Nat} {keeps : Nat → Bool} {tv : Nat → Int} {Z : Nat} {X : List z3p} (k : CSl n h keeps tv Z n X) : CSl n h keeps tv (Z + 1) 0 X where
 ok := k.ok
 up s hs := by
  have := k.up s hs
  have h2 := (k.ok s hs).2.2.1
  omega
 ke v z hv hz hk := k.ke v z hv (by omega) hk
 le := by
  have := k.le
  rw [Nat.succ_mul]
  omega
theorem y8y {X : List z3p} {Z V : Nat} (h : ∀ s, s ∈ X → s.f1 < Z ∨ (s.f1 = Z ∧ s.f0 < V)) : z28 X V Z = false := by
 unfold z28
 rw [List.any_eq_false]
 intro s hs e
 have := h s hs
 have := of_decide_eq_true e
 omega
theorem CSl.no {n h : Nat} {keeps : Nat → Bool} {tv : Nat → Int} {Z V : Nat} {X : List z3p} (k : CSl n h keeps tv Z V X) (hk : keeps V = true → ¬ tv V ≤ Z) : CSl n h keeps tv Z (V + 1) X where
 ok := k.ok
 up s hs := by have := k.up s hs; omega
 ke v z hv hz hkv := by
  by_cases e : z = Z ∧ v = V
  ·rw [e.1, e.2, y8y k.up, decide_eq_false (hk (by rw [← e.2]; exact hkv))]
  ·exact k.ke v z hv (by omega) hkv
 le := by have := k.le; omega
theorem CSl.yes {n h : Nat} {keeps : Nat → Bool} {tv : Nat → Int} {Z V : Nat} {X : List z3p} (k : CSl n h keeps tv Z V X) (hV : V < n) (hZ : Z ≤ h) (hk : keeps V = true → tv V ≤ Z) : CSl n h keeps tv Z (V + 1) (X ++ [⟨(V : Int), (Z : Int)⟩]) where
 ok s hs := by
  rcases List.mem_append.1 hs with hs | hs
  ·exact k.ok s hs
  ·rw [List.mem_singleton] at hs
   subst hs
   exact ⟨by show (0 : Int) ≤ (V : Int); omega, by show (0 : Int) ≤ (Z : Int); omega, by show (V : Int) < (n : Int); omega, by show (Z : Int) ≤ (h : Int); omega⟩
 up s hs := by
  rcases List.mem_append.1 hs with hs | hs
  ·have := k.up s hs; omega
  ·rw [List.mem_singleton] at hs
   subst hs
   exact .inr ⟨rfl, by show (V : Int) < ((V + 1 : Nat) : Int); omega⟩
 ke v z hv hz hkv := by
  rw [z36]
  have e1 : z28 [⟨(V : Int), (Z : Int)⟩] v z = decide (V = v ∧ Z = z) := by
   unfold z28
   simp only [List.any_cons, List.any_nil, Bool.or_false]
   by_cases e : V = v ∧ Z = z
   ·rw [decide_eq_true e, decide_eq_true (by omega)]
   ·rw [decide_eq_false e, decide_eq_false (by omega)]
  rw [e1]
  by_cases e : z = Z ∧ v = V
  ·rw [e.1, e.2, y8y k.up, decide_eq_true (hk (by rw [← e.2]; exact hkv))]
   simp
  ·rw [k.ke v z hv (by omega) hkv, decide_eq_false (show ¬ (V = v ∧ Z = z) by omega), Bool.or_false]
 le := by
  have := k.le
  rw [List.length_append, List.length_singleton]
  omega
def CSlAt (n h : Nat) (keeps : Nat → Bool) (w : World) (e : Ending) (w' : World) : Prop := ∃ (X : List z3p) (tv : Nat → Int) (A1 : Option Addr) (c1 : Nat), e = .returned (.slice A1 X.length c1) ∧ Kd.R z35 110 w' w.heap.size (fun _ => True) (.slice A1 X.length c1) X ∧ CSl n h keeps tv (h + 1) 0 X ∧ Below w.heap.size w w'
theorem y3e (o : z69 w v a0 a1 l2 a3 a4 a5 l6 l7 l8 l9 A2 c2 A6 c6 A7 c7 A8 c8 A9 c9) (n h : Nat) (b : Bool) (A : Option Addr) (c k : Nat) (Ap : Option Addr) (cp : Nat) (p : List Grp) (Aq : Option Addr) (cq : Nat) (q : List Grp) (hp : Kd.C z1v w Ap p.length p) (hq : Kd.C z1v w Aq q.length q) (gp : ∀ g, g ∈ p → 0 ≤ g.f1) (gq : ∀ g, g ∈ q → 0 ≤ g.f1) (lp : p.length ≤ 1000) (lq : q.length ≤ 1000) (hn : n ≤ 1000) (hh : h ≤ 4000) (hnh : (h + 1) * n ≤ 4000) :
  Calls Tryz.prog 21 #[.agg (z1g a0 a1 l2 a3 a4 a5 l6 l7 l8 l9 A2 c2 A6 c6 A7 c7 A8 c8 A9 c9), .agg #[.int .i64 n, .bool b, .slice A k c], .slice Ap p.length cp, .slice Aq q.length cq, .int .i64 h] w (CSlAt n h (d9 b p q) w) := by
 have HC9 := zh o.r9
 have HU9 := zh o.u9
 have HP := zh hp
 have HQ := zh hq
 have HG0 := zh (And.intro gp gq)
 have hu := Tryz.underlying33
 have hu2 := Tryz.underlying29
 have hu4 := Tryz.underlying110
 obtain ⟨bv, hbv⟩ : ∃ bv : Nat → Int, bv = fun v => if v < l9.length then rd l9 (v : Int) else 0 := ⟨_, rfl⟩
 obtain ⟨tv, htv⟩ : ∃ tv : Nat → Int, tv = fun v => (bv v).tmod ((h : Int) + 2) := ⟨_, rfl⟩
 have HBV := zh hbv
 have HTV := zh htv
 have HNH := zh hnh
 clear o hp hq gp gq hbv htv hnh
 go_enter Tryz.func21, Tryz.ntmps21
 obtain ⟨w1, hw1⟩ : ∃ w1, w1 = (w.alloc (.cells (z1g a0 a1 l2 a3 a4 a5 l6 l7 l8 l9 A2 c2 A6 c6 A7 c7 A8 c8 A9 c9) 29)).alloc (.cells #[.int .i64 n, .bool b, .slice A k c] 33) := ⟨_, rfl⟩
 have HX : Hid (w1.heap[w.heap.size]? = some (.cells (z1g a0 a1 l2 a3 a4 a5 l6 l7 l8 l9 A2 c2 A6 c6 A7 c7 A8 c8 A9 c9) 29 (0, 0)) ∧ w1.heap[w.heap.size + 1]? = some (.cells #[.int .i64 n, .bool b, .slice A k c] 33 (0, 0)) ∧ Below w.heap.size w w1) := zh (by
  rw [hw1]
  exact ⟨j9 (heap_alloc_new _ _) _, z01 (by rw [z0k]), y8 (y8 (Below.refl _ _) _) _⟩)
 go_wp2
 rw [← hw1]
 clear hw1
 go_loopg [11, 12] (h + 2) (fun m ov iv W => ∃ (z : Nat) (X : List z3p) (Ao : Option Addr) (co : Nat), z ≤ h + 1 ∧ ov = .slice Ao X.length co ∧ iv = .int .i64 z ∧ m = h + 2 - z ∧ Hid (CSl n h (d9 b p q) tv z 0 X ∧ Kd.R z35 110 W w.heap.size (fun _ => True) (.slice Ao X.length co) X ∧ W.heap[w.heap.size]? = some (.cells (z1g a0 a1 l2 a3 a4 a5 l6 l7 l8 l9 A2 c2 A6 c6 A7 c7 A8 c8 A9 c9) 29 (0, 0)) ∧ W.heap[w.heap.size + 1]? = some (.cells #[.int .i64 n, .bool b, .slice A k c] 33 (0, 0)) ∧ Below w.heap.size w W))
 case atStart => exact ⟨0, [], none, 0, by omega, rfl, rfl, rfl, zh ⟨CSl.zero _ _ _ _, Kd.R_nil _ _ _ _ _, HX.out⟩⟩
 case round =>
  obtain ⟨z, X, Ao, co, hz, rfl, rfl, rfl, HL⟩ := hrel
  clear HX
  by_cases hzl : z ≤ h
  ·have hzl2 : (z : Int) ≤ (h : Int) := by omega
   go_wp2
   go_loopg [11, 13] (n + 1) (fun m ov iv W => ∃ (v : Nat) (X : List z3p) (Ao : Option Addr) (co : Nat), v ≤ n ∧ ov = .slice Ao X.length co ∧ iv = .int .i64 v ∧ m = n + 1 - v ∧ Hid (CSl n h (d9 b p q) tv z v X ∧ Kd.R z35 110 W w.heap.size (fun _ => True) (.slice Ao X.length co) X ∧ W.heap[w.heap.size]? = some (.cells (z1g a0 a1 l2 a3 a4 a5 l6 l7 l8 l9 A2 c2 A6 c6 A7 c7 A8 c8 A9 c9) 29 (0, 0)) ∧ W.heap[w.heap.size + 1]? = some (.cells #[.int .i64 n, .bool b, .slice A k c] 33 (0, 0)) ∧ Below w.heap.size w W))
   case atStart => exact ⟨0, X, Ao, co, Nat.zero_le _, rfl, rfl, rfl, HL⟩
   case round =>
    clear HL
    obtain ⟨v, X, Ao, co, hv, rfl, rfl, rfl, HL⟩ := hrel
    have x9 : wr.cell? ⟨w.heap.size, 9, none⟩ = some (.slice A9 l9.length c9) := (y7 HL.out.2.2.1 9).trans rfl
    have y0 : wr.cell? ⟨w.heap.size + 1, 0, none⟩ = some (.int .i64 n) := (y7 HL.out.2.2.2.1 0).trans rfl
    have y1 : wr.cell? ⟨w.heap.size + 1, 1, none⟩ = some (.bool b) := (y7 HL.out.2.2.2.1 1).trans rfl
    have y2 : wr.cell? ⟨w.heap.size + 1, 2, none⟩ = some (.slice A k c) := (y7 HL.out.2.2.2.1 2).trans rfl
    by_cases hvl : v < n
    ·have hvl2 : (v : Int) < (n : Int) := by omega
     have hXl : X.length ≤ 1000000 := by
      have h8 := HL.out.1.le
      have h7 : z * n ≤ (h + 1) * n := Nat.mul_le_mul_right n (by omega)
      have h6 := HNH.out
      omega
     by_cases hbl : v < l9.length
     ·have v0 : (0 : Int) ≤ (v : Int) := by omega
      have hbl2 : (v : Int) < (l9.length : Int) := by omega
      obtain ⟨ae, eb, z0⟩ := Kd.at_int (Kd.C_below HC9.out HL.out.2.2.2.2) (v : Int) v0 hbl2
      subst eb
      obtain ⟨B, hB⟩ : ∃ B, B = rd l9 (v : Int) := ⟨_, rfl⟩
      have hBu := y66 (HU9.out B (by
       rw [hB]
       unfold rd
       rw [Int.toNat_natCast, List.getD_eq_getElem?_getD, List.getElem?_eq_getElem hbl]
       exact List.getElem_mem _))
      rw [Int.toNat_natCast, ← hB] at z0
      obtain ⟨T, hT⟩ : ∃ T, B.tmod ((h : Int) + 2) = T := ⟨_, rfl⟩
      have HTE : Hid (tv v = T) := zh (by rw [HTV.out, HBV.out]; show (if v < l9.length then rd l9 (v : Int) else 0).tmod ((h : Int) + 2) = T; rw [if_pos hbl, ← hB]; exact hT)
      have e2 : IntKind.i64.wrap B = B := IntWalk.i64_in _ (by omega)
      have e1 : IntKind.i64.wrap ((h : Int) + 2) = (h : Int) + 2 := IntWalk.i64_in _ (by omega)
      have hnz : ¬ (h : Int) + 2 = 0 := by omega
      obtain ⟨ib, hib⟩ : ∃ ib, (Go.bits .and .u16 (B / 2 ^ min z 16) 1 == 1) = ib := ⟨_, rfl⟩
      clear hB
      cases hkb : d9 b p q v with
      |false =>
       have HKB := zh hkb
       clear hkb
       cases ib with
       |true =>
        go_wp2_with (first
         |(go_at_call 30; go_loud ((with_reducible refine (z1l n b (.slice A k c) Ap cp p Aq cq q v _ ?s1 ?s2 ?s3 ?s4 ?s5 ?s6).mono ?_); (case s1 => exact Kd.C_below HP.out HL.out.2.2.2.2); (case s2 => exact Kd.C_below HQ.out HL.out.2.2.2.2); (case s3 => omega); (case s4 => omega); (case s5 => exact HG0.out.1); (case s6 => exact HG0.out.2); rintro e w6 ⟨rfl, hb⟩; rw [show (b || (z1a (z0a p) (v : Int) || z1a (z0a q) (v : Int))) = false from HKB.out]; have HM := zh (And.intro (Kd.R_below HL.out.2.1 hb) (And.intro (j5 HL.out.2.2.1 hb) (And.intro (j5 HL.out.2.2.2.1 hb) (v6 HL.out.2.2.2.2 hb)))); clear x9 y0 y1 y2 hb))
         |((with_reducible refine r5 (N := 60) rfl ?_); (refine gA (w0 := w) (base := w.heap.size) y3s X ⟨(v : Int), (z : Int)⟩ ?aO ?aB ?aS ?aL ?_); (case aO => exact HM.out.1); (case aB => exact HM.out.2.2.2); (case aS => exact HM.out.2.2.2.size); (case aL => exact hXl); go_loud (intro A1 c1 w9 ho hb hg; have HF := zh (And.intro ho (And.intro (z0b HM.out.2.1 hg (Kd.R_ne HM.out.1 HM.out.2.1 (by decide))) (And.intro (z0b HM.out.2.2.1 hg (Kd.R_ne HM.out.1 HM.out.2.2.1 (by decide))) hb))); clear ho hb hg)))
        go_roundg (n - v)
        case measure => omega
        case rel => exact ⟨v + 1, X ++ [⟨(v : Int), (z : Int)⟩], A1, c1, by omega, by rw [List.length_append]; rfl, by go_num, by omega, zh ⟨CSl.yes HL.out.1 hvl hzl (fun e => by rw [HKB.out] at e; cases e), by rw [List.length_append]; exact HF.out.1, HF.out.2⟩⟩
       |false =>
        go_wp2_with (go_at_call 30; go_loud ((with_reducible refine (z1l n b (.slice A k c) Ap cp p Aq cq q v _ ?s1 ?s2 ?s3 ?s4 ?s5 ?s6).mono ?_); (case s1 => exact Kd.C_below HP.out HL.out.2.2.2.2); (case s2 => exact Kd.C_below HQ.out HL.out.2.2.2.2); (case s3 => omega); (case s4 => omega); (case s5 => exact HG0.out.1); (case s6 => exact HG0.out.2); rintro e w6 ⟨rfl, hb⟩; rw [show (b || (z1a (z0a p) (v : Int) || z1a (z0a q) (v : Int))) = false from HKB.out]; have HM := zh (And.intro (Kd.R_below HL.out.2.1 hb) (And.intro (j5 HL.out.2.2.1 hb) (And.intro (j5 HL.out.2.2.2.1 hb) (v6 HL.out.2.2.2.2 hb)))); clear x9 y0 y1 y2 hb))
        go_roundg (n - v)
        case measure => omega
        case rel => exact ⟨v + 1, X, Ao, co, by omega, rfl, by go_num, by omega, zh ⟨CSl.no HL.out.1 (fun e => by rw [HKB.out] at e; cases e), HM.out⟩⟩
      |true =>
       have HKB := zh hkb
       clear hkb
       by_cases hTz : T ≤ (z : Int)
       ·have HTZ := zh hTz
        go_wp2_with (first
         |(go_at_call 30; go_loud ((with_reducible refine (z1l n b (.slice A k c) Ap cp p Aq cq q v _ ?s1 ?s2 ?s3 ?s4 ?s5 ?s6).mono ?_); (case s1 => exact Kd.C_below HP.out HL.out.2.2.2.2); (case s2 => exact Kd.C_below HQ.out HL.out.2.2.2.2); (case s3 => omega); (case s4 => omega); (case s5 => exact HG0.out.1); (case s6 => exact HG0.out.2); rintro e w6 ⟨rfl, hb⟩; rw [show (b || (z1a (z0a p) (v : Int) || z1a (z0a q) (v : Int))) = true from HKB.out]; have HM := zh (And.intro (Kd.R_below HL.out.2.1 hb) (And.intro (j5 HL.out.2.2.1 hb) (And.intro (j5 HL.out.2.2.2.1 hb) (v6 HL.out.2.2.2.2 hb)))); clear x9 y0 y1 y2 hb))
         |((with_reducible refine r5 (N := 60) rfl ?_); (refine gA (w0 := w) (base := w.heap.size) y3s X ⟨(v : Int), (z : Int)⟩ ?aO ?aB ?aS ?aL ?_); (case aO => exact HM.out.1); (case aB => exact HM.out.2.2.2); (case aS => exact HM.out.2.2.2.size); (case aL => exact hXl); go_loud (intro A1 c1 w9 ho hb hg; have HF := zh (And.intro ho (And.intro (z0b HM.out.2.1 hg (Kd.R_ne HM.out.1 HM.out.2.1 (by decide))) (And.intro (z0b HM.out.2.2.1 hg (Kd.R_ne HM.out.1 HM.out.2.2.1 (by decide))) hb))); clear ho hb hg)))
        go_roundg (n - v)
        case measure => omega
        case rel => exact ⟨v + 1, X ++ [⟨(v : Int), (z : Int)⟩], A1, c1, by omega, by rw [List.length_append]; rfl, by go_num, by omega, zh ⟨CSl.yes HL.out.1 hvl hzl (fun _ => by rw [HTE.out]; have := HTZ.out; omega), by rw [List.length_append]; exact HF.out.1, HF.out.2⟩⟩
       ·have HTZ := zh hTz
        go_wp2_with (go_at_call 30; go_loud ((with_reducible refine (z1l n b (.slice A k c) Ap cp p Aq cq q v _ ?s1 ?s2 ?s3 ?s4 ?s5 ?s6).mono ?_); (case s1 => exact Kd.C_below HP.out HL.out.2.2.2.2); (case s2 => exact Kd.C_below HQ.out HL.out.2.2.2.2); (case s3 => omega); (case s4 => omega); (case s5 => exact HG0.out.1); (case s6 => exact HG0.out.2); rintro e w6 ⟨rfl, hb⟩; rw [show (b || (z1a (z0a p) (v : Int) || z1a (z0a q) (v : Int))) = true from HKB.out]; have HM := zh (And.intro (Kd.R_below HL.out.2.1 hb) (And.intro (j5 HL.out.2.2.1 hb) (And.intro (j5 HL.out.2.2.2.1 hb) (v6 HL.out.2.2.2.2 hb)))); clear x9 y0 y1 y2 hb))
        go_roundg (n - v)
        case measure => omega
        case rel => exact ⟨v + 1, X, Ao, co, by omega, rfl, by go_num, by omega, zh ⟨CSl.no HL.out.1 (fun _ => by rw [HTE.out]; have := HTZ.out; omega), HM.out⟩⟩
     ·have hbl2 : ¬ (v : Int) < (l9.length : Int) := by omega
      have HTE : Hid (tv v = 0) := zh (by rw [HTV.out, HBV.out]; show (if v < l9.length then rd l9 (v : Int) else 0).tmod ((h : Int) + 2) = 0; rw [if_neg hbl]; exact Int.zero_tmod _)
      have e1 : IntKind.i64.wrap ((h : Int) + 2) = (h : Int) + 2 := IntWalk.i64_in _ (by omega)
      have hnz : ¬ (h : Int) + 2 = 0 := by omega
      have hib : (Go.bits .and .u16 0 1 == 1) = false := by decide
      have hz0 : (0 : Int).tmod ((h : Int) + 2) = 0 := Int.zero_tmod _
      have hz1 : (0 : Int) ≤ (z : Int) := by omega
      cases hkb : d9 b p q v with
      |false =>
       have HKB := zh hkb
       clear hkb
       go_wp2_with (go_at_call 30; go_loud ((with_reducible refine (z1l n b (.slice A k c) Ap cp p Aq cq q v _ ?s1 ?s2 ?s3 ?s4 ?s5 ?s6).mono ?_); (case s1 => exact Kd.C_below HP.out HL.out.2.2.2.2); (case s2 => exact Kd.C_below HQ.out HL.out.2.2.2.2); (case s3 => omega); (case s4 => omega); (case s5 => exact HG0.out.1); (case s6 => exact HG0.out.2); rintro e w6 ⟨rfl, hb⟩; rw [show (b || (z1a (z0a p) (v : Int) || z1a (z0a q) (v : Int))) = false from HKB.out]; have HM := zh (And.intro (Kd.R_below HL.out.2.1 hb) (And.intro (j5 HL.out.2.2.1 hb) (And.intro (j5 HL.out.2.2.2.1 hb) (v6 HL.out.2.2.2.2 hb)))); clear x9 y0 y1 y2 hb))
       go_roundg (n - v)
       case measure => omega
       case rel => exact ⟨v + 1, X, Ao, co, by omega, rfl, by go_num, by omega, zh ⟨CSl.no HL.out.1 (fun e => by rw [HKB.out] at e; cases e), HM.out⟩⟩
      |true =>
       have HKB := zh hkb
       clear hkb
       go_wp2_with (first
        |(go_at_call 30; go_loud ((with_reducible refine (z1l n b (.slice A k c) Ap cp p Aq cq q v _ ?s1 ?s2 ?s3 ?s4 ?s5 ?s6).mono ?_); (case s1 => exact Kd.C_below HP.out HL.out.2.2.2.2); (case s2 => exact Kd.C_below HQ.out HL.out.2.2.2.2); (case s3 => omega); (case s4 => omega); (case s5 => exact HG0.out.1); (case s6 => exact HG0.out.2); rintro e w6 ⟨rfl, hb⟩; rw [show (b || (z1a (z0a p) (v : Int) || z1a (z0a q) (v : Int))) = true from HKB.out]; have HM := zh (And.intro (Kd.R_below HL.out.2.1 hb) (And.intro (j5 HL.out.2.2.1 hb) (And.intro (j5 HL.out.2.2.2.1 hb) (v6 HL.out.2.2.2.2 hb)))); clear x9 y0 y1 y2 hb))
        |((with_reducible refine r5 (N := 60) rfl ?_); (refine gA (w0 := w) (base := w.heap.size) y3s X ⟨(v : Int), (z : Int)⟩ ?aO ?aB ?aS ?aL ?_); (case aO => exact HM.out.1); (case aB => exact HM.out.2.2.2); (case aS => exact HM.out.2.2.2.size); (case aL => exact hXl); go_loud (intro A1 c1 w9 ho hb hg; have HF := zh (And.intro ho (And.intro (z0b HM.out.2.1 hg (Kd.R_ne HM.out.1 HM.out.2.1 (by decide))) (And.intro (z0b HM.out.2.2.1 hg (Kd.R_ne HM.out.1 HM.out.2.2.1 (by decide))) hb))); clear ho hb hg)))
       go_roundg (n - v)
       case measure => omega
       case rel => exact ⟨v + 1, X ++ [⟨(v : Int), (z : Int)⟩], A1, c1, by omega, by rw [List.length_append]; rfl, by go_num, by omega, zh ⟨CSl.yes HL.out.1 hvl hzl (fun _ => by rw [HTE.out]; exact hz1), by rw [List.length_append]; exact HF.out.1, HF.out.2⟩⟩
    ·have e : v = n := by omega
     subst e
     go_wp2
     go_roundg (h + 1 - z)
     case measure => omega
     case rel => exact ⟨z + 1, X, Ao, co, by omega, rfl, by go_num, by omega, zh ⟨HL.out.1.row, HL.out.2⟩⟩
  ·have e : z = h + 1 := by omega
   have hzl2 : ¬ (z : Int) ≤ (h : Int) := by omega
   go_wp2
   go_ret
   exact ⟨X, tv, Ao, co, rfl, HL.out.2.1, by rw [← e]; exact HL.out.1, HL.out.2.2.2.2⟩
end
end Go.Proofs.YtcgdloldkcmhnaaGreat.H
end
section
namespace Go.Proofs.YtcgdloldkcmhnaaGreat.H
open Go Go.RowKit Go.Proofs.YtcgdloldkcmhnaaGreat.PrintC Go.Proofs.YtcgdloldkcmhnaaGreat.PrintE Go.Proofs.YtcgdloldkcmhnaaGreatW.PrintWords Go.Proofs.YtcgdloldkcmhnaaGreatW.PrintLast Go.Proofs.YtcgdloldkcmhnaaGreatW.PrintMore Go.Proofs.YtcgdloldkcmhnaaGreat.Flow
abbrev z2r : List Arc := [⟨0, 1, 2, 1⟩, ⟨1, 2, 2, 1⟩]
abbrev pL : List Grp := [⟨0, 3⟩]
abbrev qL : List Grp := [⟨2, 5⟩]
theorem x4c : x2s 6 (3 : Nat) z2r where
 n2 := by decide
 n5 := by decide
 ll := by decide
 arc x hx := by
  simp only [z2r, List.mem_cons, List.not_mem_nil, or_false] at hx
  rcases hx with rfl | rfl <;> decide
theorem x4d : GI (3 : Nat) pL qL where
 p0 := by simp
 q0 := by simp
 gp g hg := by
  obtain rfl := List.mem_singleton.1 hg
  decide
 gq g hg := by
  obtain rfl := List.mem_singleton.1 hg
  decide
 dp := by simp
 dq := by simp
 apart g hg x hx := by
  obtain rfl := List.mem_singleton.1 hg
  obtain rfl := List.mem_singleton.1 hx
  decide
theorem z23 {h : Nat} (hh : h ≤ 16) : z3f 3 h z2r pL qL := x3k (m := 6) (by omega) x4c x4d hh
theorem useL (x : Arc) : z0v qL x = !decide (x.f0 = 2) := by
 unfold z0v
 rw [z1j]
 simp [eq_comm]
theorem x5z (v : Nat) : d9 false pL qL v = (decide ((v : Int) = 0) || decide ((v : Int) = 2)) := by
 unfold d9
 rw [z1j, z1j]
 simp [eq_comm]
theorem y64 : z0v qL = fun x => !decide (x.f0 = 2) := funext useL
theorem y1h : d9 false pL qL = fun v : Nat => (decide ((v : Int) = 0) || decide ((v : Int) = 2)) := funext x5z
theorem line2 : z1h z2r (z0v qL) (d9 false pL qL) 3 2 9 10 pL qL = [⟨0, 4, 2, 0⟩, ⟨1, 5, 2, 0⟩, ⟨0, 3, 1099511627776, 0⟩, ⟨2, 5, 1099511627776, 0⟩, ⟨3, 7, 2, 0⟩, ⟨4, 8, 2, 0⟩, ⟨3, 6, 1099511627776, 0⟩, ⟨5, 8, 1099511627776, 0⟩, ⟨9, 0, 3, 0⟩, ⟨8, 10, 5, 0⟩] := by
 rw [y64, y1h]
 rfl
theorem line3 : z1h z2r (z0v qL) (d9 false pL qL) 3 3 12 13 pL qL = [⟨0, 4, 2, 0⟩, ⟨1, 5, 2, 0⟩, ⟨0, 3, 1099511627776, 0⟩, ⟨2, 5, 1099511627776, 0⟩, ⟨3, 7, 2, 0⟩, ⟨4, 8, 2, 0⟩, ⟨3, 6, 1099511627776, 0⟩, ⟨5, 8, 1099511627776, 0⟩, ⟨6, 10, 2, 0⟩, ⟨7, 11, 2, 0⟩, ⟨6, 9, 1099511627776, 0⟩, ⟨8, 11, 1099511627776, 0⟩, ⟨12, 0, 3, 0⟩, ⟨11, 13, 5, 0⟩] := by
 rw [y64, y1h]
 rfl
theorem y4k : z1t 3 2 false z2r pL qL = 2 := by
 obtain ⟨⟨S, h1, h2, h3⟩, h4⟩ := ((z23 (h := 2) (by decide)).place).cut false
 have u := h4 (fun v => decide (v = 9) || decide (v = 0) || decide (v = 3) || decide (v = 6) || decide (v = 7)) (by decide) (by decide)
 unfold y6f at u h3
 rw [show z1h z2r (z0v qL) (d9 false pL qL) 3 2 ((2 + 1) * 3) ((2 + 1) * 3 + 1) pL qL = _ from line2] at u h3
 have u2 : z4k (fun v => decide (v = 9) || decide (v = 0) || decide (v = 3) || decide (v = 6) || decide (v = 7)) [⟨0, 4, 2, 0⟩, ⟨1, 5, 2, 0⟩, ⟨0, 3, 1099511627776, 0⟩, ⟨2, 5, 1099511627776, 0⟩, ⟨3, 7, 2, 0⟩, ⟨4, 8, 2, 0⟩, ⟨3, 6, 1099511627776, 0⟩, ⟨5, 8, 1099511627776, 0⟩, ⟨9, 0, 3, 0⟩, ⟨8, 10, 5, 0⟩] = 2 := by decide +kernel
 rw [u2] at u
 have h1' : S 9 = true := h1
 have h2' : S 10 = false := h2
 have lo : 2 ≤ z4k S [⟨0, 4, 2, 0⟩, ⟨1, 5, 2, 0⟩, ⟨0, 3, 1099511627776, 0⟩, ⟨2, 5, 1099511627776, 0⟩, ⟨3, 7, 2, 0⟩, ⟨4, 8, 2, 0⟩, ⟨3, 6, 1099511627776, 0⟩, ⟨5, 8, 1099511627776, 0⟩, ⟨9, 0, 3, 0⟩, ⟨8, 10, 5, 0⟩] := by
  simp only [z4k, y6g, h1', h2']
  generalize S 0 = x0
  generalize S 1 = x1
  generalize S 2 = x2
  generalize S 3 = x3
  generalize S 4 = x4
  generalize S 5 = x5
  generalize S 6 = x6
  generalize S 7 = x7
  generalize S 8 = x8
  revert x0 x1 x2 x3 x4 x5 x6 x7 x8
  decide +kernel
 omega
theorem z9j : z1t 3 3 false z2r pL qL = 3 := by
 have hp := (z23 (h := 3) (by decide)).place
 obtain ⟨⟨S, h1, h2, h3⟩, -⟩ := hp.cut false
 have u := hp.le_total false
 have ut : z02 pL = 3 := by decide
 rw [ut] at u
 unfold y6f at h3
 rw [show z1h z2r (z0v qL) (d9 false pL qL) 3 3 ((3 + 1) * 3) ((3 + 1) * 3 + 1) pL qL = _ from line3] at h3
 have h1' : S 12 = true := h1
 have h2' : S 13 = false := h2
 have lo : 3 ≤ z4k S [⟨0, 4, 2, 0⟩, ⟨1, 5, 2, 0⟩, ⟨0, 3, 1099511627776, 0⟩, ⟨2, 5, 1099511627776, 0⟩, ⟨3, 7, 2, 0⟩, ⟨4, 8, 2, 0⟩, ⟨3, 6, 1099511627776, 0⟩, ⟨5, 8, 1099511627776, 0⟩, ⟨6, 10, 2, 0⟩, ⟨7, 11, 2, 0⟩, ⟨6, 9, 1099511627776, 0⟩, ⟨8, 11, 1099511627776, 0⟩, ⟨12, 0, 3, 0⟩, ⟨11, 13, 5, 0⟩] := by
  simp only [z4k, y6g, h1', h2']
  generalize S 0 = x0
  generalize S 1 = x1
  generalize S 2 = x2
  generalize S 3 = x3
  generalize S 4 = x4
  generalize S 5 = x5
  generalize S 6 = x6
  generalize S 7 = x7
  generalize S 8 = x8
  generalize S 9 = x9
  generalize S 10 = x10
  generalize S 11 = x11
  revert x0 x1 x2 x3 x4 x5 x6 x7 x8 x9 x10 x11
  decide +kernel
 omega
theorem x05 {k : Nat} (hk : 300 ≤ k) : evac_Most.f k 3 false z2r pL pL 2 = some (0, 210) := by
 have c1 := z9p (b := false) (z23 (h := 2) (by decide)).net hk
 have c2 : z1m 3 pL pL = 210 := by decide +kernel
 have ok : okG pL = true ∧ okG pL = true := ⟨(z23 (h := 2) (by decide)).okp.1, (z23 (h := 2) (by decide)).okp.1⟩
 have hb : z3o k 3 false z2r pL pL 2 = some 210 := by
  unfold z3o
  rw [show netfmt_Check.f k 3 false z2r = some 0 from c1, Option.bind_some, if_pos rfl, c2, if_neg (by decide)]
 unfold evac_Most.f
 rw [if_pos ok, hb, Option.bind_some, if_neg (by decide)]
theorem y8i : evac_Most.f 300 3 false z2r pL qL 2 = some (2, 0) := by
 have h2 := (z23 (h := 2) (by decide)).most false (k := 300) (by decide)
 rw [y4k] at h2
 exact h2
theorem y55 : evac_Least.f 300 3 false z2r pL qL 9 = some (3, true, 0) := by
 have h9 := (z23 (h := 9) (by decide)).least false (k := 300) (by decide)
 have hp9 := (z23 (h := 9) (by decide)).place
 have t3 : z02 pL = 3 := by decide
 have e9 : z1t 3 9 false z2r pL qL = z02 pL := by
  have m1 := z00.mono_le (m := 3) (h := 9) false hp9 (by decide)
  have m2 := hp9.le_total false
  rw [z9j] at m1
  omega
 obtain ⟨f1, f2, f3⟩ := (z23 (h := 9) (by decide)).first false e9
 have hb : bsr (fun k => z1t 3 k false z2r pL qL == z02 pL) 0 9 = 3 := by
  generalize bsr (fun k => z1t 3 k false z2r pL qL == z02 pL) 0 9 = z at f1 f2 f3
  by_cases c : z < 3
  ·have m1 := z00.mono_le (m := z) (h := 2) false (hp9.le (by decide)) (by omega)
   rw [y4k] at m1
   omega
  ·by_cases c2 : 3 < z
   ·have := f2 3 c2
    rw [z9j] at this
    omega
   ·omega
 rw [hb, if_pos (by simpa using e9), e9] at h9
 rw [show (some (3, true, 0) : Option (Int × Bool × Int)) = some (((3 : Nat) : Int), z02 pL == z02 pL, 0) by simp]
 exact h9
set_option linter.unusedVariables false
set_option linter.unusedSimpArgs false
theorem x2f {W : World} {g : Nat} {l : List Arc} (hl : l.length ≤ 100000) (h : W.heap[g]? = some (.cells (z5c l).toArray 104 (0, 0))) : Kd.C z3l W (some ⟨g, 0, none⟩) l.length l := by
 refine ⟨rfl, by omega, fun _ => ⟨_, rfl, fun j p hj => ⟨[.int .i64 p.f0, .int .i64 p.f1, .int .i64 p.f2, .int .i64 p.f3], rfl, y8q _ p, fun i u hu => ?_⟩⟩⟩
 have h1 := z40 l j p hj i u hu
 have h2 : W.cell? ⟨g, j * 4 + i, none⟩ = some u := by
  refine (y7 h (j * 4 + i)).trans ?_
  rw [List.getElem?_toArray]
  exact h1
 have h3 : (Addr.add ⟨g, 0, none⟩ (j * z3l.sz + i)) = ⟨g, j * 4 + i, none⟩ := by
  have : z3l.sz = 4 := rfl
  rw [this]
  unfold Addr.add
  split
  ·rename_i h4
   rw [h4]
  ·simp
 rw [h3]
 exact h2
theorem y83 {W : World} {g : Nat} {a b : Int} (h : W.heap[g]? = some (.cells #[.int .i64 a, .int .i64 b] 59 (0, 0))) : Kd.C z1v W (some ⟨g, 0, none⟩) 1 [⟨a, b⟩] := by
 refine ⟨rfl, by simp, fun _ => ⟨_, rfl, fun j p hj => ?_⟩⟩
 have hj0 : j = 0 := by have := (List.getElem?_eq_some_iff.1 hj).1; simpa using this
 subst hj0
 have e : (⟨a, b⟩ : Grp) = p := by simpa using hj
 subst e
 refine ⟨[.int .i64 a, .int .i64 b], rfl, x50 _ ⟨a, b⟩, fun i u hu => ?_⟩
 match i, hu with
 |0, hu => exact (y7 h 0).trans hu
 |1, hu => exact (y7 h 1).trans hu
 |i + 2, hu => simp at hu
theorem y8h (b : Bool) (w : World) : Calls Tryz.prog 22 #[.bool b] w fun e w' => ∃ g, e = .returned (.agg #[.int .i64 3, .bool b, .slice (some ⟨g, 0, none⟩) 2 2]) ∧ Kd.C z3l w' (some ⟨g, 0, none⟩) 2 z2r ∧ Below w.heap.size w w' := by
 have hu := Tryz.underlying33
 go_enter Tryz.func22, Tryz.ntmps22
 go_wp2
 refine bodyPost_ret (results_cell_row rfl _ _ w.heap.size 33 #[.int .i64 3, .bool b, .slice (some ⟨w.heap.size + 1, 0, none⟩) 2 2] (0, 0) _ rfl (j9 (heap_alloc_new w _) _) hu rfl (by kernel_rfl)) rfl ?_
 exact ⟨_, rfl, x2f (l := z2r) (by decide) (z01 (by simp)), y8 (y8 (Below.refl _ _) _) _⟩
theorem y79 {A Ap Aq : Option Addr} {w : World} (hA : Kd.C z3l w A 2 z2r) (hp : Kd.C z1v w Ap 1 pL) (hq : Kd.C z1v w Aq 1 qL) :
  Calls Tryz.prog 9 #[.agg #[.int .i64 3, .bool false, .slice A 2 2], .slice Ap 1 1, .slice Aq 1 1, .int .i64 2] w fun e w' => e = .returned (.tuple #[.int .i64 2, .int .i64 0]) ∧ Below w.heap.size w w' :=
 evac_Most.calls 300 3 false A 2 z2r Ap 1 pL Aq 1 qL 2 2 0 w hA (Nat.le_refl _) hp (Nat.le_refl _) hq (Nat.le_refl _) y8i
theorem y56 {A Ap Aq : Option Addr} {w : World} (hA : Kd.C z3l w A 2 z2r) (hp : Kd.C z1v w Ap 1 pL) (hq : Kd.C z1v w Aq 1 qL) :
  Calls Tryz.prog 15 #[.agg #[.int .i64 3, .bool false, .slice A 2 2], .slice Ap 1 1, .slice Aq 1 1, .int .i64 9] w fun e w' => e = .returned (.tuple #[.int .i64 3, .bool true, .int .i64 0]) ∧ Below w.heap.size w w' :=
 evac_Least.calls 300 3 false A 2 z2r Ap 1 pL Aq 1 qL 9 3 true 0 w hA (Nat.le_refl _) hp (Nat.le_refl _) hq (Nat.le_refl _) y55
theorem x2c {A Ap : Option Addr} {w : World} (hA : Kd.C z3l w A 2 z2r) (hp : Kd.C z1v w Ap 1 pL) :
  Calls Tryz.prog 9 #[.agg #[.int .i64 3, .bool false, .slice A 2 2], .slice Ap 1 1, .slice Ap 1 1, .int .i64 2] w fun e w' => e = .returned (.tuple #[.int .i64 0, .int .i64 210]) ∧ Below w.heap.size w w' :=
 evac_Most.calls 300 3 false A 2 z2r Ap 1 pL Ap 1 pL 2 0 210 w hA (Nat.le_refl _) hp (Nat.le_refl _) hp (Nat.le_refl _) (x05 (k := 300) (Nat.le_refl _))
theorem y6s (w : World) : Calls Tryz.prog 7 #[] w fun e w' => e = .returned (.bool true) ∧ Below w.heap.size w w' := by
 have hu := Tryz.underlying59
 have hu2 := Tryz.underlying34
 go_enter Tryz.func7, Tryz.ntmps7
 go_wp2_with (go_at_call 22; fail)
 have HP := zh (y83 (j9 (heap_alloc_new w (.cells #[.int .i64 0, .int .i64 3] 59)) (.cells #[.int .i64 2, .int .i64 5] 59)))
 have HQ := zh (y83 (g := w.heap.size + 1) (z01 (W := w.alloc (.cells #[.int .i64 0, .int .i64 3] 59)) (o := .cells #[.int .i64 2, .int .i64 5] 59) (by simp)))
 have HB0 := zh (y8 (y8 (Below.refl w.heap.size w) (.cells #[.int .i64 0, .int .i64 3] 59)) (.cells #[.int .i64 2, .int .i64 5] 59))
 generalize ((w.alloc (.cells #[.int .i64 0, .int .i64 3] 59)).alloc (.cells #[.int .i64 2, .int .i64 5] 59)) = w1 at HP HQ HB0 ⊢
 have HB := zh (Below.refl w1.heap.size w1)
 go_wp2_with (first
  |(go_at_call 22; (with_reducible refine (y8h false _).mono ?_); rintro e w2 ⟨g, rfl, hA, hb⟩; (try clear HA); have HA := zh hA; have HN := zh (v6 HB.out hb); clear HB; have HB := HN; clear HN hb hA)
  |(go_at_call 9; (with_reducible refine (y79 HA.out (Kd.C_below HP.out HB.out) (Kd.C_below HQ.out HB.out)).mono ?_); rintro e w2 ⟨rfl, hb⟩; have HN := zh (v6 HB.out hb); clear HB; have HB := HN; clear HN hb)
  |(go_at_call 15; (with_reducible refine (y56 HA.out (Kd.C_below HP.out HB.out) (Kd.C_below HQ.out HB.out)).mono ?_); rintro e w2 ⟨rfl, hb⟩; have HN := zh (v6 HB.out hb); clear HB; have HB := HN; clear HN hb)
  |(go_at_call 9; (with_reducible refine (x2c HA.out (Kd.C_below HP.out HB.out)).mono ?_); rintro e w2 ⟨rfl, hb⟩; have HN := zh (v6 HB.out hb); clear HB; have HB := HN; clear HN hb))
 go_ret
 exact ⟨rfl, v6 HB0.out HB.out⟩
end Go.Proofs.YtcgdloldkcmhnaaGreat.H
end
