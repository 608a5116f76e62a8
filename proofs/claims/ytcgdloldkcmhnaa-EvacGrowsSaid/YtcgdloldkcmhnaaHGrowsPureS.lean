/- With one more of people or of room the greatest amount is no smaller, and greater by one at most: cuts. -/
import Derived.Test.YtcgdloldkcmhnaaU6
namespace Go.Proofs.Ytcgdloldkcmhnaa.H
open Go Go.RowKit Go.Proofs.Ytcgdloldkcmhnaa.PrintC Go.Proofs.YtcgdloldkcmhnaaW.PrintWords Go.Proofs.Ytcgdloldkcmhnaa.Flow
set_option linter.unusedVariables false
theorem infoGrp2 : (Try.prog.info? 44).map (fun i => (i.zero, i.size, i.bytes)) = some (some (.agg #[.int .i64 0, .int .i64 0]), 2, 16) := by kernel_rfl
theorem most_at (k : Nat) (n : Int) (b : Bool) (A : Option Addr) (c : Nat) (l : List Arc) (Ap : Option Addr) (cp : Nat) (p : List Grp) (mp : Nat) (hmp : p.length = mp) (Aq : Option Addr) (cq : Nat) (q : List Grp) (mq : Nat) (hmq : q.length = mq) (h r1 r2 : Int) (w : World) (hr : Kd.C kArc w A l.length l) (hc : l.length ≤ c)
    (hp : Kd.C kGrp w Ap mp p) (h1 : mp ≤ cp) (hq : Kd.C kGrp w Aq mq q) (h2 : mq ≤ cq) (hF : evac_Most.f k n b l p q h = some (r1, r2)) :
    Calls Try.prog 14 #[.agg #[.int .i64 n, .bool b, .slice A l.length c], .slice Ap mp cp, .slice Aq mq cq, .int .i64 h] w fun e w' => e = .returned (.tuple #[.int .i64 r1, .int .i64 r2]) ∧ Below w.heap.size w w' := by
  subst hmp hmq
  exact evac_Most.calls k n b A c l Ap cp p Aq cq q h r1 r2 w hr hc hp h1 hq h2 hF
/-- One of the groups has one more. -/
def up (p : List Grp) (i : Nat) : List Grp := p.set i ⟨(p.getD i ⟨0, 0⟩).f0, (p.getD i ⟨0, 0⟩).f1 + 1⟩
theorem up_len (p : List Grp) (i : Nat) : (up p i).length = p.length := List.length_set ..
theorem up_keys : ∀ (p : List Grp) (i : Nat), ((up p i).map fun g => g.f0) = p.map fun g => g.f0
  | [], i => rfl
  | g :: p, 0 => rfl
  | g :: p, i + 1 => by
    show g.f0 :: ((up p i).map fun g => g.f0) = g.f0 :: _
    rw [up_keys p i]
theorem up_mem : ∀ (p : List Grp) (i : Nat) (g : Grp), g ∈ up p i → ∃ x, x ∈ p ∧ x.f0 = g.f0 ∧ x.f1 ≤ g.f1 ∧ g.f1 ≤ x.f1 + 1
  | [], i, g, h => nomatch h
  | y :: p, 0, g, h => by
    rcases List.mem_cons.1 h with rfl | h
    · exact ⟨y, List.mem_cons_self .., rfl, show y.f1 ≤ y.f1 + 1 by omega, Int.le_refl _⟩
    · exact ⟨g, List.mem_cons_of_mem _ h, rfl, Int.le_refl _, by omega⟩
  | y :: p, i + 1, g, h => by
    rcases List.mem_cons.1 (show g ∈ y :: up p i from h) with rfl | h
    · exact ⟨g, List.mem_cons_self .., rfl, Int.le_refl _, by omega⟩
    · obtain ⟨x, h1, h2⟩ := up_mem p i g h
      exact ⟨x, List.mem_cons_of_mem _ h1, h2⟩
theorem gS_up {t : Grp → Bool} (ht : ∀ g x : Grp, g.f0 = x.f0 → t g = t x) : ∀ (p : List Grp) (i : Nat), gS t p ≤ gS t (up p i) ∧ gS t (up p i) ≤ gS t p + 1
  | [], i => by show gS t [] ≤ gS t [] ∧ gS t [] ≤ gS t [] + 1; omega
  | g :: p, 0 => by
    show gS t (g :: p) ≤ gS t (⟨g.f0, g.f1 + 1⟩ :: p) ∧ gS t (⟨g.f0, g.f1 + 1⟩ :: p) ≤ gS t (g :: p) + 1
    unfold gS
    rw [ht ⟨g.f0, g.f1 + 1⟩ g rfl]
    show (if t g = true then g.f1 else 0) + gS t p ≤ (if t g = true then g.f1 + 1 else 0) + gS t p ∧ (if t g = true then g.f1 + 1 else 0) + gS t p ≤ (if t g = true then g.f1 else 0) + gS t p + 1
    split <;> omega
  | g :: p, i + 1 => by
    show gS t (g :: p) ≤ gS t (g :: up p i) ∧ gS t (g :: up p i) ≤ gS t (g :: p) + 1
    have := gS_up ht p i
    unfold gS
    omega
theorem up_nil {p : List Grp} (h : p ≠ []) (i : Nat) : up p i ≠ [] := fun e => h (List.eq_nil_of_length_eq_zero (by rw [← up_len p i, e]; rfl))
theorem hasK_up (p : List Grp) (i : Nat) (x : Int) : hasK (putGs (up p i)) x = hasK (putGs p) x := by
  rw [hasK_putGs, hasK_putGs]
  have h (l : List Grp) : (l.any fun g => decide (g.f0 = x)) = (l.map fun g => g.f0).any fun y => decide (y = x) := by rw [List.any_map]; rfl
  rw [h, h, up_keys]
section
variable {n h : Nat} {l : List Arc} {p q : List Grp}
theorem AskOk.upP (a : AskOk n h l p q) (i : Nat) (hb : ∀ g, g ∈ p → g.f1 ≤ 1000) : AskOk n h l (up p i) q where
  net := a.net
  grp := ⟨up_nil a.grp.p0 i, a.grp.q0, fun g hg => by
    obtain ⟨x, h1, h2, h3, h4⟩ := up_mem p i g hg
    have := a.grp.gp x h1
    have := hb x h1
    omega, a.grp.gq, by rw [up_keys]; exact a.grp.dp, a.grp.dq, fun g hg x hx e => by
    obtain ⟨y, h1, h2, _⟩ := up_mem p i x hx
    exact a.grp.apart g hg y h1 (h2.trans e)⟩
  hh := a.hh
  hn := a.hn
  hl := a.hl
theorem AskOk.upQ (a : AskOk n h l p q) (i : Nat) (hb : ∀ g, g ∈ q → g.f1 ≤ 1000) : AskOk n h l p (up q i) where
  net := a.net
  grp := ⟨a.grp.p0, up_nil a.grp.q0 i, a.grp.gp, fun g hg => by
    obtain ⟨x, h1, h2, h3, h4⟩ := up_mem q i g hg
    have := a.grp.gq x h1
    have := hb x h1
    omega, a.grp.dp, by rw [up_keys]; exact a.grp.dq, fun g hg x hx e => by
    obtain ⟨y, h1, h2, _⟩ := up_mem q i g hg
    exact a.grp.apart y h1 x hx (e.trans h2.symm)⟩
  hh := a.hh
  hn := a.hn
  hl := a.hl
theorem evCut_upP (b : Bool) (i : Nat) (S : Int → Bool) : evCut n h b l p q S ≤ evCut n h b l (up p i) q S ∧ evCut n h b l (up p i) q S ≤ evCut n h b l p q S + 1 := by
  unfold evCut
  have e : keepsOf b (up p i) q = keepsOf b p q := by
    funext v
    unfold keepsOf
    rw [hasK_up]
  rw [e, cut_ev, cut_ev]
  have := gS_up (t := fun g => S ((h + 1) * n : Nat) && !S g.f0) (fun g x e => by simp only [e]) p i
  omega
theorem evCut_upQ (b : Bool) (i : Nat) (S : Int → Bool) : evCut n h b l p q S ≤ evCut n h b l p (up q i) S ∧ evCut n h b l p (up q i) S ≤ evCut n h b l p q S + 1 := by
  unfold evCut
  have e : keepsOf b p (up q i) = keepsOf b p q := by
    funext v
    unfold keepsOf
    rw [hasK_up]
  have e2 : useOf (up q i) = useOf q := by
    funext x
    unfold useOf
    rw [hasK_up]
  rw [e, e2, cut_ev, cut_ev]
  have := gS_up (t := fun g => S ((h : Int) * n + g.f0) && !S ((h + 1) * n + 1 : Nat)) (fun g x e => by simp only [e]) q i
  omega
theorem most_upP (a : AskOk n h l p q) (b : Bool) (i : Nat) (hb : ∀ g, g ∈ p → g.f1 ≤ 1000) : mostV n h b l p q ≤ mostV n h b l (up p i) q ∧ mostV n h b l (up p i) q ≤ mostV n h b l p q + 1 := by
  obtain ⟨⟨S, s1, s2, s3⟩, c1⟩ := a.place.cut b
  obtain ⟨⟨T, t1, t2, t3⟩, c2⟩ := (a.upP i hb).place.cut b
  have u1 := c1 T t1 t2
  have u2 := c2 S s1 s2
  have v1 := (evCut_upP (n := n) (h := h) (l := l) (p := p) (q := q) b i S).2
  have v2 := (evCut_upP (n := n) (h := h) (l := l) (p := p) (q := q) b i T).1
  omega
theorem most_upQ (a : AskOk n h l p q) (b : Bool) (i : Nat) (hb : ∀ g, g ∈ q → g.f1 ≤ 1000) : mostV n h b l p q ≤ mostV n h b l p (up q i) ∧ mostV n h b l p (up q i) ≤ mostV n h b l p q + 1 := by
  obtain ⟨⟨S, s1, s2, s3⟩, c1⟩ := a.place.cut b
  obtain ⟨⟨T, t1, t2, t3⟩, c2⟩ := (a.upQ i hb).place.cut b
  have u1 := c1 T t1 t2
  have u2 := c2 S s1 s2
  have v1 := (evCut_upQ (n := n) (h := h) (l := l) (p := p) (q := q) b i S).2
  have v2 := (evCut_upQ (n := n) (h := h) (l := l) (p := p) (q := q) b i T).1
  omega
theorem cutL_pos (S : Int → Bool) : ∀ l : List Arc, (∀ x, x ∈ l → 0 ≤ x.f2) → 0 ≤ cutL S l
  | [], _ => Int.le_refl _
  | x :: l, h => by
    have h1 := cutL_pos S l (fun y hy => h y (List.mem_cons_of_mem _ hy))
    have h2 := h x (List.mem_cons_self ..)
    show 0 ≤ cutA S x + cutL S l
    unfold cutA
    split <;> omega
theorem most_bd (a : AskOk n h l p q) (b : Bool) : 0 ≤ mostV n h b l p q ∧ mostV n h b l p q ≤ 2000000000 := by
  obtain ⟨⟨S, s1, s2, s3⟩, c1⟩ := a.place.cut b
  refine ⟨?_, ?_⟩
  · rw [s3]
    exact cutL_pos S _ (fun x hx => (a.place.arcs b x hx).2.2.1)
  · have h1 := a.place.le_total b
    rw [totalV_gS] at h1
    have h2 := (gS_bd (fun _ => true) a.place.gp).2
    have h3 := a.place.lp
    have h4 : (p.length : Int) * 1048576 ≤ 1000 * 1048576 := by omega
    omega
end
end Go.Proofs.Ytcgdloldkcmhnaa.H
