/- Texts of this proof, joined; what the statement doesn't need is left out. -/
import Derived.Test.YtcgdloldkcmhnaaU5
section
namespace Go.Proofs.Ytcgdloldkcmhnaa.H
open Go Go.RowKit Go.Proofs.Ytcgdloldkcmhnaa.PrintC Go.Proofs.Ytcgdloldkcmhnaa.PrintE Go.Proofs.YtcgdloldkcmhnaaW.PrintWords Go.Proofs.YtcgdloldkcmhnaaW.PrintLast Go.Proofs.YtcgdloldkcmhnaaW.PrintMore Go.Proofs.Ytcgdloldkcmhnaa.Flow
theorem tm_eq {x n : Int} (h0 : 0 ≤ x) (h1 : x < 4611686018427387904) : Int.tmod (wrap64 x) n = x % n := by
  have e : wrap64 x = x := by unfold wrap64; omega
  rw [e, Int.tmod_eq_emod_of_nonneg h0]
theorem tm_bd {x n : Int} (h0 : 0 ≤ x) (h1 : x < 4611686018427387904) (hn : 0 < n) : 0 ≤ Int.tmod (wrap64 x) n ∧ Int.tmod (wrap64 x) n < n := by
  rw [tm_eq h0 h1]
  exact ⟨Int.emod_nonneg _ (by omega), Int.emod_lt_of_pos _ hn⟩
def U8 (x : Int) : Prop := 0 ≤ x ∧ x ≤ 255
abbrev CBit := S77
def U8s (l : List CBit) : Prop := ∀ x, x ∈ l → U8 x.f0 ∧ U8 x.f1 ∧ U8 x.f2 ∧ U8 x.f3
structure NetSm (m : Nat) (n : Int) (l : List Arc) : Prop where
  n2 : 2 ≤ n
  n5 : n ≤ 5
  ll : l.length ≤ m
  arc : ∀ x, x ∈ l → (0 ≤ x.f0 ∧ x.f0 < n) ∧ (0 ≤ x.f1 ∧ x.f1 < n) ∧ (0 ≤ x.f2 ∧ x.f2 ≤ 5) ∧ 0 ≤ x.f3 ∧ x.f3 ≤ 3
theorem rd_mem77 {l : List CBit} {i : Nat} (h : i < l.length) : rd_T77 l (i : Int) ∈ l := by
  unfold rd_T77
  rw [Int.toNat_natCast, List.getD_eq_getElem?_getD, List.getElem?_eq_getElem h]
  exact List.getElem_mem h
theorem read12_go {m : Nat} (hm : m ≤ 1000) {a0 : Int} {a1 : Bool} {bits : List CBit} {a3 a4 a5 n : Int} {b : Bool} (hb : U8s bits) (h3 : U8 a3) (h4 : U8 a4) (h5 : U8 a5) (hn : 2 ≤ n ∧ n ≤ 5) :
    ∀ (d k i : Nat) (acc : List Arc), i + d = m → d + 1 < k → acc.length = i → (∀ x, x ∈ acc → (0 ≤ x.f0 ∧ x.f0 < n) ∧ (0 ≤ x.f1 ∧ x.f1 < n) ∧ (0 ≤ x.f2 ∧ x.f2 ≤ 5) ∧ 0 ≤ x.f3 ∧ x.f3 ≤ 3) →
      ∃ (l : List Arc) (s t h : Int), ebbtidelaw12_Read.l0 k (m : Int) (i : Int) a0 a1 bits a3 a4 a5 n b acc = some (n, b, l, s, t, h) ∧ NetSm m n l ∧ (0 ≤ s ∧ s < n) ∧ (0 ≤ t ∧ t < n) ∧ s ≠ t ∧ 0 ≤ h ∧ h ≤ 7 := by
  have fin : ∀ acc : List Arc, acc.length ≤ m → (∀ x, x ∈ acc → (0 ≤ x.f0 ∧ x.f0 < n) ∧ (0 ≤ x.f1 ∧ x.f1 < n) ∧ (0 ≤ x.f2 ∧ x.f2 ≤ 5) ∧ 0 ≤ x.f3 ∧ x.f3 ≤ 3) →
      ∃ (l : List Arc) (s t h : Int), (if n = 0 then none else if wrap64 (n - 1) = 0 then none else some (n, b, acc, Int.tmod (wrap64 a3) n, Int.tmod (wrap64 ((wrap64 ((Int.tmod (wrap64 a3) n) + 1)) + (Int.tmod (wrap64 a4) (wrap64 (n - 1))))) n, Int.tmod (wrap64 a5) 8)) = some (n, b, l, s, t, h) ∧ NetSm m n l ∧ (0 ≤ s ∧ s < n) ∧ (0 ≤ t ∧ t < n) ∧ s ≠ t ∧ 0 ≤ h ∧ h ≤ 7 := by
    intro acc hl ha
    have e1 : wrap64 (n - 1) = n - 1 := by unfold wrap64; omega
    have s1 := tm_bd (x := a3) (n := n) h3.1 (by have := h3.2; omega) (by omega)
    have r1 := tm_bd (x := a4) (n := n - 1) h4.1 (by have := h4.2; omega) (by omega)
    have v1 := tm_bd (x := a5) (n := 8) h5.1 (by have := h5.2; omega) (by omega)
    rw [e1, if_neg (by omega), if_neg (by omega)]
    generalize Int.tmod (wrap64 a3) n = s at s1 ⊢
    generalize Int.tmod (wrap64 a4) (n - 1) = r at r1 ⊢
    generalize Int.tmod (wrap64 a5) 8 = h at v1 ⊢
    have e2 : wrap64 (s + 1) = s + 1 := by unfold wrap64; omega
    have t1 := tm_bd (x := s + 1 + r) (n := n) (by omega) (by omega) (by omega)
    have t2 := tm_eq (x := s + 1 + r) (n := n) (by omega) (by omega)
    refine ⟨acc, _, _, _, rfl, ⟨hn.1, hn.2, hl, ha⟩, s1, by rw [e2]; exact t1, ?_, v1.1, by omega⟩
    rw [e2, t2]
    clear t1 t2 e1 e2 v1
    obtain ⟨n1, n2⟩ := hn
    have : n = 2 ∨ n = 3 ∨ n = 4 ∨ n = 5 := by omega
    rcases this with rfl | rfl | rfl | rfl <;> omega
  intro d
  induction d with
  | zero =>
    intro k i acc hi hk hl ha
    obtain ⟨k, rfl⟩ : ∃ z, k = z + 1 := ⟨k - 1, by omega⟩
    rw [ebbtidelaw12_Read.l0]
    split
    · rw [if_neg (by omega)]
      exact fin acc (by omega) ha
    · exact fin acc (by omega) ha
  | succ d ih =>
    intro k i acc hi hk hl ha
    obtain ⟨k, rfl⟩ : ∃ z, k = z + 1 := ⟨k - 1, by omega⟩
    rw [ebbtidelaw12_Read.l0]
    split
    · rename_i hc
      have hx := hb _ (rd_mem77 (l := bits) (i := i) (by omega))
      have e : wrap64 ((i : Int) + 1) = ((i + 1 : Nat) : Int) := by unfold wrap64; omega
      rw [if_pos (by omega), if_pos (by omega), if_neg (by omega), if_pos (by omega), e]
      refine ih k (i + 1) _ (by omega) (by omega) (by rw [List.length_append, hl]; rfl) (fun x hm2 => ?_)
      rcases List.mem_append.1 hm2 with hm2 | hm2
      · exact ha x hm2
      · obtain rfl := List.mem_singleton.1 hm2
        have x0 := tm_bd (n := n) hx.1.1 (by have := hx.1.2; omega) (by omega)
        have x1 := tm_bd (n := n) hx.2.1.1 (by have := hx.2.1.2; omega) (by omega)
        have x2 := tm_bd (n := 6) hx.2.2.1.1 (by have := hx.2.2.1.2; omega) (by omega)
        have x3 := tm_bd (n := 4) hx.2.2.2.1 (by have := hx.2.2.2.2; omega) (by omega)
        exact ⟨x0, x1, ⟨x2.1, by show Int.tmod _ _ ≤ _; omega⟩, x3.1, by show Int.tmod _ _ ≤ _; omega⟩
    · exact fin acc (by omega) ha
theorem read12 {m : Nat} (hm : m ≤ 1000) {a0 : Int} (a1 : Bool) {bits : List CBit} {a3 a4 a5 : Int} (h0 : U8 a0) (hb : U8s bits) (h3 : U8 a3) (h4 : U8 a4) (h5 : U8 a5) {k : Nat} (hk : m + 1 < k) :
    ∃ (n : Int) (b : Bool) (l : List Arc) (s t h : Int), ebbtidelaw12_Read.f k a0 a1 bits a3 a4 a5 (m : Int) = some (n, b, l, s, t, h) ∧ NetSm m n l ∧ (0 ≤ s ∧ s < n) ∧ (0 ≤ t ∧ t < n) ∧ s ≠ t ∧ 0 ≤ h ∧ h ≤ 7 := by
  have q := tm_bd (x := a0) (n := 4) h0.1 (by have := h0.2; omega) (by omega)
  have e : wrap64 (2 + Int.tmod (wrap64 a0) 4) = 2 + Int.tmod (wrap64 a0) 4 := by
    generalize Int.tmod (wrap64 a0) 4 = z at q
    unfold wrap64
    omega
  obtain ⟨l, s, t, h, e1, r⟩ := read12_go hm (a0 := a0) (a1 := a1) (n := 2 + Int.tmod (wrap64 a0) 4) (b := a1) hb h3 h4 h5 (by omega) m k 0 [] (by omega) hk rfl (fun x hx => by cases hx)
  refine ⟨_, a1, l, s, t, h, ?_, r⟩
  unfold ebbtidelaw12_Read.f
  rw [e]
  exact e1
structure GI (n : Int) (p q : List Grp) : Prop where
  p0 : p ≠ []
  q0 : q ≠ []
  gp : ∀ g, g ∈ p → (0 ≤ g.f0 ∧ g.f0 < n) ∧ 0 ≤ g.f1 ∧ g.f1 ≤ 8
  gq : ∀ g, g ∈ q → (0 ≤ g.f0 ∧ g.f0 < n) ∧ 0 ≤ g.f1 ∧ g.f1 ≤ 8
  dp : (p.map fun g => g.f0).Nodup
  dq : (q.map fun g => g.f0).Nodup
  apart : ∀ g, g ∈ q → ∀ x, x ∈ p → x.f0 ≠ g.f0
theorem GI.ok {n : Int} {p q : List Grp} (h : GI n p q) : GroupsOk n p q :=
  ⟨h.p0, h.q0, fun g hg => ⟨(h.gp g hg).1, (h.gp g hg).2.1, by have := (h.gp g hg).2.2; omega⟩, fun g hg => ⟨(h.gq g hg).1, (h.gq g hg).2.1, by have := (h.gq g hg).2.2; omega⟩, h.dp, h.dq, h.apart⟩
theorem GI.swap {n : Int} {p q : List Grp} (h : GI n p q) : GI n q p := ⟨h.q0, h.p0, h.gq, h.gp, h.dq, h.dp, fun g hg x hx e => h.apart x hx g hg e.symm⟩
theorem GI.snoc {n : Int} {p q : List Grp} (h : GI n p q) {g : Grp} (hg : (0 ≤ g.f0 ∧ g.f0 < n) ∧ 0 ≤ g.f1 ∧ g.f1 ≤ 8) (h1 : ∀ x, x ∈ p → x.f0 ≠ g.f0) (h2 : ∀ x, x ∈ q → x.f0 ≠ g.f0) : GI n (p ++ [g]) q where
  p0 := by simp
  q0 := h.q0
  gp x hx := by
    rcases List.mem_append.1 hx with hx | hx
    · exact h.gp x hx
    · obtain rfl := List.mem_singleton.1 hx
      exact hg
  gq := h.gq
  dp := by
    rw [List.map_append, List.nodup_append]
    refine ⟨h.dp, by simp, fun a ha c hc => ?_⟩
    obtain ⟨x, hx, rfl⟩ := List.mem_map.1 ha
    have : c = g.f0 := by simpa using hc
    rw [this]
    exact h1 x hx
  dq := h.dq
  apart x hx y hy := by
    rcases List.mem_append.1 hy with hy | hy
    · exact h.apart x hx y hy
    · obtain rfl := List.mem_singleton.1 hy
      exact fun e => h2 x hx e.symm
theorem GI.amend {n : Int} {g : Grp} {p q : List Grp} (h : GI n (g :: p) q) {v : Int} (hv : 0 ≤ v ∧ v ≤ 8) : GI n (⟨g.f0, v⟩ :: p) q where
  p0 := by simp
  q0 := h.q0
  gp x hx := by
    rcases List.mem_cons.1 hx with rfl | hx
    · exact ⟨(h.gp g (List.mem_cons_self ..)).1, hv⟩
    · exact h.gp x (List.mem_cons_of_mem _ hx)
  gq := h.gq
  dp := h.dp
  dq := h.dq
  apart x hx y hy := by
    rcases List.mem_cons.1 hy with rfl | hy
    · exact h.apart x hx g (List.mem_cons_self ..)
    · exact h.apart x hx y (List.mem_cons_of_mem _ hy)
theorem GI.amend0 {n : Int} {p q : List Grp} (h : GI n p q) {v : Int} (hv : 0 ≤ v ∧ v ≤ 8) : GI n (p.set (0 : Int).toNat ⟨(rd_T44 p 0).f0, v⟩) q := by
  cases p with
  | nil => exact absurd rfl h.p0
  | cons g p => exact h.amend hv
theorem of_go {l : List Grp} (hl : l.length ≤ 1000) (v : Int) : ∀ (d k i : Nat), i + d = l.length → d + 1 < k → ∃ r, ebbtideref21_Of.l0 k l v (i : Int) = some r ∧ (r < 0 → (∀ g, g ∈ l → 0 ≤ g.f1) → ∀ g, g ∈ l.drop i → g.f0 ≠ v)
  | 0, k, i, hi, hk => by
    obtain ⟨k, rfl⟩ : ∃ z, k = z + 1 := ⟨k - 1, by omega⟩
    refine ⟨-1, by rw [ebbtideref21_Of.l0, if_neg (by omega)], fun _ _ g hg => ?_⟩
    rw [List.drop_of_length_le (by omega)] at hg
    cases hg
  | d + 1, k, i, hi, hk => by
    obtain ⟨k, rfl⟩ : ∃ z, k = z + 1 := ⟨k - 1, by omega⟩
    have e : wrap64 ((i : Int) + 1) = ((i + 1 : Nat) : Int) := by unfold wrap64; omega
    have hd : l.drop i = rd_T44 l (i : Int) :: l.drop (i + 1) := by
      rw [List.drop_eq_getElem_cons (by omega)]
      unfold rd_T44
      rw [Int.toNat_natCast, List.getD_eq_getElem?_getD, List.getElem?_eq_getElem (by omega)]
      rfl
    rw [ebbtideref21_Of.l0, if_pos (by omega), if_pos (by omega), hd]
    by_cases c : (rd_T44 l (i : Int)).f0 = v
    · rw [if_pos c]
      refine ⟨_, rfl, fun h0 hp => ?_⟩
      have hm : rd_T44 l (i : Int) ∈ l := List.mem_of_mem_drop (i := i) (by rw [hd]; exact List.mem_cons_self ..)
      have := hp _ hm
      omega
    · rw [if_neg c, e]
      obtain ⟨r, h1, h2⟩ := of_go hl v d k (i + 1) (by omega) (by omega)
      refine ⟨r, h1, fun h0 hp g hg => ?_⟩
      rcases List.mem_cons.1 hg with rfl | hg
      · exact c
      · exact h2 h0 hp g hg
theorem of_f {l : List Grp} (hl : l.length ≤ 1000) (v : Int) {k : Nat} (hk : l.length + 1 < k) : ∃ r, ebbtideref21_Of.f k l v = some r ∧ (r < 0 → (∀ g, g ∈ l → 0 ≤ g.f1) → ∀ g, g ∈ l → g.f0 ≠ v) :=
  of_go hl v l.length k 0 (by omega) hk
def U8l (l : List Int) : Prop := ∀ x, x ∈ l → U8 x
theorem rd_u8 {l : List Int} (h : U8l l) {i : Nat} (hi : i < l.length) : U8 (rd l (i : Int)) := by
  refine h _ ?_
  unfold rd
  rw [Int.toNat_natCast, List.getD_eq_getElem?_getD, List.getElem?_eq_getElem hi]
  exact List.getElem_mem hi
section
variable {a0 : Int} {a1 : Bool} {bits : List CBit} {a3 a4 a5 : Int} {l6 l7 : List Int} {l8 : List S101} {l9 : List Int} {n : Int} {b : Bool} {l : List Arc} {s t h : Int}
theorem rooms_go (hn : 2 ≤ n ∧ n ≤ 5) (h7 : U8l l7) (ht : 0 ≤ t ∧ t < n) : ∀ (d k j : Nat) (p q : List Grp), j + d = 4 → 2 * d + 20 ≤ k → GI n p q → p.length ≤ 5 → q.length ≤ j + 1 →
    ∃ p' q', ebbtidelaw21_Read.l1 k t h p q (j : Int) a0 a1 bits a3 a4 a5 l6 l7 l8 l9 n b l = some (n, b, l, p', q', h) ∧ GI n p' q'
  | 0, k, j, p, q, hj, hk, hg, hp, hq => by
    obtain ⟨k, rfl⟩ : ∃ z, k = z + 1 + 1 := ⟨k - 2, by omega⟩
    refine ⟨p, q, ?_, hg⟩
    rw [ebbtidelaw21_Read.l1]
    split
    · rw [decide_eq_false (by omega), ebbtidelaw21_Read.j3, if_neg (by decide)]
    · rw [ebbtidelaw21_Read.j3, if_neg (by decide)]
  | d + 1, k, j, p, q, hj, hk, hg, hp, hq => by
    obtain ⟨k, rfl⟩ : ∃ z, k = z + 1 + 1 := ⟨k - 2, by omega⟩
    rw [ebbtidelaw21_Read.l1]
    by_cases c : (j : Int) < l7.length
    · have e : wrap64 ((j : Int) + 1) = ((j + 1 : Nat) : Int) := by unfold wrap64; omega
      have hu := rd_u8 h7 (i := j) (by omega)
      have hv := tm_bd (n := 9) hu.1 (by have := hu.2; omega) (by omega)
      rw [if_pos c, decide_eq_true (by omega), ebbtidelaw21_Read.j3, if_pos rfl, if_pos (by omega), if_pos c, if_neg (by omega), e]
      by_cases cj : (j : Int) = 0
      · have hq0 := List.length_pos_iff.2 hg.q0
        rw [if_pos cj, if_pos (by omega)]
        exact rooms_go hn h7 ht d k (j + 1) p _ (by omega) (by omega) (hg.swap.amend0 ⟨hv.1, by omega⟩).swap hp (by rw [List.length_set]; omega)
      · have e2 : wrap64 (t + (j : Int)) = t + j := by unfold wrap64; omega
        have hx := tm_bd (x := t + j) (n := n) (by omega) (by omega) (by omega)
        rw [if_neg cj]
        have e3 : Int.tmod (wrap64 (t + (j : Int))) n = Int.tmod (wrap64 (t + (j : Int))) n := rfl
        generalize Int.tmod (wrap64 (t + (j : Int))) n = x at hx e3 ⊢
        obtain ⟨r1, o1, o2⟩ := of_f (l := p) (by omega) x (k := k) (by omega)
        obtain ⟨r2, o3, o4⟩ := of_f (l := q) (by omega) x (k := k) (by omega)
        rw [o1, Option.bind_some]
        by_cases c1 : r1 < 0
        · rw [if_pos c1, o3, Option.bind_some]
          by_cases c2 : r2 < 0
          · rw [if_pos c2, if_pos (by omega)]
            exact rooms_go hn h7 ht d k (j + 1) p _ (by omega) (by omega) (hg.swap.snoc (g := ⟨x, _⟩) ⟨hx, hv.1, by show Int.tmod _ _ ≤ _; omega⟩ (o4 c2 (fun g hm => (hg.gq g hm).2.1)) (o2 c1 (fun g hm => (hg.gp g hm).2.1))).swap hp (by rw [List.length_append]; show q.length + 1 ≤ _; omega)
          · rw [if_neg c2]
            exact rooms_go hn h7 ht d k (j + 1) p q (by omega) (by omega) hg hp (by omega)
        · rw [if_neg c1]
          exact rooms_go hn h7 ht d k (j + 1) p q (by omega) (by omega) hg hp (by omega)
    · rw [if_neg c, ebbtidelaw21_Read.j3, if_neg (by decide)]
      exact ⟨p, q, rfl, hg⟩
theorem people_go (hn : 2 ≤ n ∧ n ≤ 5) (h6 : U8l l6) (h7 : U8l l7) (hs : 0 ≤ s ∧ s < n) (ht : 0 ≤ t ∧ t < n) : ∀ (d k j : Nat) (p q : List Grp), j + d = 4 → 2 * d + 40 ≤ k → GI n p q → p.length ≤ j + 1 → q.length ≤ 1 →
    ∃ p' q', ebbtidelaw21_Read.l0 k s t h p q (j : Int) a0 a1 bits a3 a4 a5 l6 l7 l8 l9 n b l = some (n, b, l, p', q', h) ∧ GI n p' q'
  | 0, k, j, p, q, hj, hk, hg, hp, hq => by
    obtain ⟨k, rfl⟩ : ∃ z, k = z + 1 + 1 := ⟨k - 2, by omega⟩
    have := rooms_go (a0 := a0) (a1 := a1) (bits := bits) (a3 := a3) (a4 := a4) (a5 := a5) (l6 := l6) (l8 := l8) (l9 := l9) (b := b) (l := l) (h := h) hn h7 ht 4 k 0 p q rfl (by omega) hg (by omega) (by omega)
    rw [ebbtidelaw21_Read.l0]
    split
    · rw [decide_eq_false (by omega), ebbtidelaw21_Read.j1, if_neg (by decide)]
      exact this
    · rw [ebbtidelaw21_Read.j1, if_neg (by decide)]
      exact this
  | d + 1, k, j, p, q, hj, hk, hg, hp, hq => by
    obtain ⟨k, rfl⟩ : ∃ z, k = z + 1 + 1 := ⟨k - 2, by omega⟩
    rw [ebbtidelaw21_Read.l0]
    by_cases c : (j : Int) < l6.length
    · have e : wrap64 ((j : Int) + 1) = ((j + 1 : Nat) : Int) := by unfold wrap64; omega
      have hu := rd_u8 h6 (i := j) (by omega)
      have hv := tm_bd (n := 7) hu.1 (by have := hu.2; omega) (by omega)
      rw [if_pos c, decide_eq_true (by omega), ebbtidelaw21_Read.j1, if_pos rfl, if_pos (by omega), if_pos c, if_neg (by omega), e]
      by_cases cj : (j : Int) = 0
      · have hp0 := List.length_pos_iff.2 hg.p0
        rw [if_pos cj, if_pos (by omega)]
        exact people_go hn h6 h7 hs ht d k (j + 1) _ q (by omega) (by omega) (hg.amend0 ⟨hv.1, by omega⟩) (by rw [List.length_set]; omega) hq
      · have e1 : wrap64 (2 * (j : Int)) = 2 * j := by unfold wrap64; omega
        have hx := tm_bd (x := s + 2 * j) (n := n) (by omega) (by omega) (by omega)
        rw [if_neg cj, e1]
        generalize Int.tmod (wrap64 (s + 2 * (j : Int))) n = x at hx ⊢
        obtain ⟨r1, o1, o2⟩ := of_f (l := p) (by omega) x (k := k) (by omega)
        obtain ⟨r2, o3, o4⟩ := of_f (l := q) (by omega) x (k := k) (by omega)
        rw [o1, Option.bind_some]
        by_cases c1 : r1 < 0
        · rw [if_pos c1, o3, Option.bind_some]
          by_cases c2 : r2 < 0
          · rw [if_pos c2, if_pos (by omega)]
            exact people_go hn h6 h7 hs ht d k (j + 1) _ q (by omega) (by omega) (hg.snoc (g := ⟨x, _⟩) ⟨hx, hv.1, by show Int.tmod _ _ ≤ _; omega⟩ (o2 c1 (fun g hm => (hg.gp g hm).2.1)) (o4 c2 (fun g hm => (hg.gq g hm).2.1))) (by rw [List.length_append]; show p.length + 1 ≤ _; omega) hq
          · rw [if_neg c2]
            exact people_go hn h6 h7 hs ht d k (j + 1) p q (by omega) (by omega) hg (by omega) hq
        · rw [if_neg c1]
          exact people_go hn h6 h7 hs ht d k (j + 1) p q (by omega) (by omega) hg (by omega) hq
    · rw [if_neg c, ebbtidelaw21_Read.j1, if_neg (by decide)]
      exact rooms_go hn h7 ht 4 k 0 p q rfl (by omega) hg (by omega) (by omega)
theorem read21 {m : Nat} (hm : m ≤ 40) (h0 : U8 a0) (hb : U8s bits) (h3 : U8 a3) (h4 : U8 a4) (h5 : U8 a5) (h6 : U8l l6) (h7 : U8l l7) {k : Nat} (hk : 100 ≤ k) :
    ∃ (n h : Nat) (b : Bool) (l : List Arc) (p q : List Grp), ebbtidelaw21_Read.f k a0 a1 bits a3 a4 a5 l6 l7 l8 l9 (m : Int) = some ((n : Int), b, l, p, q, (h : Int)) ∧ NetSm m n l ∧ GI n p q ∧ h ≤ 7 := by
  obtain ⟨n, b, l, s, t, h, e, hN, hs, ht, hst, hh⟩ := read12 (m := m) (by omega) a1 h0 hb h3 h4 h5 (k := k) (by omega)
  obtain ⟨p, q, e2, hg⟩ := people_go (a0 := a0) (a1 := a1) (bits := bits) (a3 := a3) (a4 := a4) (a5 := a5) (l8 := l8) (l9 := l9) (b := b) (l := l) (h := h) ⟨hN.n2, hN.n5⟩ h6 h7 hs ht 4 k 0 [⟨s, 0⟩] [⟨t, 0⟩] rfl (by omega)
    ⟨by simp, by simp, fun g hg => by
      obtain rfl := List.mem_singleton.1 hg
      exact ⟨hs, Int.le_refl _, by show (0 : Int) ≤ 8; decide⟩, fun g hg => by
      obtain rfl := List.mem_singleton.1 hg
      exact ⟨ht, Int.le_refl _, by show (0 : Int) ≤ 8; decide⟩, by simp, by simp, fun g hg x hx => by
      obtain rfl := List.mem_singleton.1 hg
      obtain rfl := List.mem_singleton.1 hx
      exact hst⟩ (Nat.le_refl _) (Nat.le_refl _)
  have n2 := hN.n2
  obtain ⟨n, rfl⟩ := Int.eq_ofNat_of_zero_le (show 0 ≤ n by omega)
  obtain ⟨h, rfl⟩ := Int.eq_ofNat_of_zero_le hh.1
  refine ⟨n, h, b, l, p, q, ?_, hN, hg, by omega⟩
  unfold ebbtidelaw21_Read.f
  rw [e, Option.bind_some]
  exact e2
end
theorem ask_of {m n h : Nat} {l : List Arc} {p q : List Grp} (hm : m ≤ 40) (hN : NetSm m n l) (hg : GI n p q) (hh : h ≤ 16) : AskOk n h l p q where
  net := ⟨by have := hN.n2; omega, by have := hN.n5; omega, by have := hN.ll; omega, fun j hj => by
    have := hN.arc _ (mem_arcAt hj)
    omega⟩
  grp := hg.ok
  hh := by omega
  hn := Nat.le_trans (Nat.mul_le_mul (show h + 1 ≤ 17 by omega) (show n ≤ 5 by have := hN.n5; omega)) (by decide)
  hl := Nat.le_trans (Nat.mul_le_mul (show h + 1 ≤ 17 by omega) (show l.length ≤ 40 by have := hN.ll; omega)) (by decide)
theorem total_go {n : Nat} {p : List Grp} (hp : GrpsIn n p) (hl : p.length ≤ 1000) : ∀ (d k i : Nat), i + d = p.length → d + 1 < k → ebbtideref21_Total.l0 k p (totalV (p.take i)) (i : Int) = some (totalV p)
  | 0, k, i, hi, hk => by
    obtain ⟨k, rfl⟩ : ∃ z, k = z + 1 := ⟨k - 1, by omega⟩
    rw [ebbtideref21_Total.l0, if_neg (by omega), List.take_of_length_le (by omega)]
  | d + 1, k, i, hi, hk => by
    obtain ⟨k, rfl⟩ : ∃ z, k = z + 1 := ⟨k - 1, by omega⟩
    have h1 := totalV_bd hp i (by omega)
    have h2 := hp _ (grp_mem (show i < p.length by omega))
    have e : wrap64 ((i : Int) + 1) = ((i + 1 : Nat) : Int) := by unfold wrap64; omega
    have e2 : wrap64 (totalV (p.take i) + (grpAt p i).f1) = totalV (p.take (i + 1)) := by
      rw [grp_take (by omega), totalV_snoc]
      generalize totalV (p.take i) = T at h1 ⊢
      unfold wrap64
      omega
    rw [ebbtideref21_Total.l0, if_pos (by omega), if_pos (by omega), e]
    show ebbtideref21_Total.l0 k p (wrap64 (totalV (p.take i) + (grpAt p i).f1)) _ = _
    rw [e2]
    exact total_go hp hl d k (i + 1) (by omega) (by omega)
theorem total_f {n : Nat} {p : List Grp} (hp : GrpsIn n p) (hl : p.length ≤ 1000) {k : Nat} (hk : p.length + 1 < k) : ebbtideref21_Total.f k p = some (totalV p) :=
  total_go hp hl p.length k 0 (by omega) hk
theorem bsr_first {holds : Nat → Bool} {top : Nat} (mono : ∀ a c, a ≤ c → c ≤ top → holds a = true → holds c = true) : ∀ (d lo hi : Nat), hi - lo ≤ d → lo ≤ hi → hi ≤ top → holds hi = true → (∀ k, k < lo → holds k = false) →
    holds (bsr holds lo hi) = true ∧ (∀ k, k < bsr holds lo hi → holds k = false) ∧ bsr holds lo hi ≤ hi
  | 0, lo, hi, hd, hl, ht, hh, h0 => by
    rw [bsr_end (by omega)]
    have : lo = hi := by omega
    subst this
    exact ⟨hh, h0, Nat.le_refl _⟩
  | d + 1, lo, hi, hd, hl, ht, hh, h0 => by
    by_cases c : lo < hi
    · cases cm : holds ((lo + hi) / 2) with
      | true =>
        rw [bsr_yes c cm]
        have := bsr_first mono d lo ((lo + hi) / 2) (by omega) (by omega) (by omega) cm h0
        exact ⟨this.1, this.2.1, by omega⟩
      | false =>
        rw [bsr_no c cm]
        refine bsr_first mono d ((lo + hi) / 2 + 1) hi (by omega) (by omega) ht hh (fun k hk => ?_)
        cases ck : holds k with
        | false => rfl
        | true =>
          rw [mono k ((lo + hi) / 2) (by omega) (by omega) ck] at cm
          cases cm
    · rw [bsr_end c]
      have : lo = hi := by omega
      subst this
      exact ⟨hh, h0, Nat.le_refl _⟩
theorem AskOk.first {n h : Nat} {l : List Arc} {p q : List Grp} (a : AskOk n h l p q) (b : Bool) (he : mostV n h b l p q = totalV p) :
    mostV n (bsr (fun k => mostV n k b l p q == totalV p) 0 h) b l p q = totalV p ∧ (∀ k, k < bsr (fun k => mostV n k b l p q == totalV p) 0 h → mostV n k b l p q < totalV p) ∧ bsr (fun k => mostV n k b l p q == totalV p) 0 h ≤ h := by
  have hp := a.place
  obtain ⟨h1, h2, h3⟩ := bsr_first (holds := fun k => mostV n k b l p q == totalV p) (top := h) (fun x c hxc hc e => by
    have e : mostV n x b l p q = totalV p := by simpa using e
    have m1 := PlaceOk.mono_le b (hp.le hc) hxc
    have m2 := (hp.le hc).le_total b
    have : mostV n c b l p q = totalV p := by omega
    simpa using this) h 0 h (by omega) (by omega) (Nat.le_refl _) (by simpa using he) (fun k hk => by omega)
  refine ⟨by simpa using h1, fun k hk => ?_, h3⟩
  have m1 := (hp.le (show k ≤ h by omega)).le_total b
  have m2 : ¬ mostV n k b l p q = totalV p := by simpa using h2 k hk
  omega
end Go.Proofs.Ytcgdloldkcmhnaa.H
end
section
namespace Go.Proofs.Ytcgdloldkcmhnaa.H
open Go Go.ChangeShapes Go.WideShapes Go.ChangeAt Go.RowKit Go.Deep Go.Joins Go.Proofs.Ytcgdloldkcmhnaa.PrintC Go.Proofs.Ytcgdloldkcmhnaa.PrintE Go.Proofs.YtcgdloldkcmhnaaW.PrintWords Go.Proofs.YtcgdloldkcmhnaaW.PrintLast
theorem ownK : ownKnob Try.prog.godebug = none := by kernel_rfl
theorem laidOutK : laidOutB Try.prog = true := by kernel_rfl
noncomputable def laidWorld (os : Os) : World := World.holding Try.prog os ⟨#[], #[], []⟩
section
variable {Hh : Type} {enc : TypeId × Value → Hh} {P : Program} {W : World} {base : Nat} {spare : Nat → Bool} {held : Bool}
theorem field_of {t : TypeId} {fs : Array Field} {n : Nat} {cs : List Value} {y : DataW Hh × List MemPlace} (hu : P.underlying t = some (.struct fs)) (h : DataW.trod enc P W base spare held n t cs = some y) (i : Nat) (f : Field) (hf : fs[i]? = some f) {k : Nat} (hk : P.cellsOf f.type = k) {cs' : List Value} (hc : (cs.drop f.offset).take k = cs') :
    ∃ m z, DataW.trod enc P W base spare held m f.type cs' = some z := by
  obtain ⟨xs, m, _, _, _, hl, hg⟩ := DataW.trod_struct hu h
  have h1 := hg i f hf
  have hi : i < xs.length := by rw [hl]; exact (Array.getElem?_eq_some_iff.1 hf).1
  rw [List.getElem?_eq_getElem hi, hk, hc] at h1
  exact ⟨m, _, h1⟩
theorem kc_ints {k : IntKind} {x : Addr} {zs : List Int} {len : Nat} (hl : len ≤ zs.length) (hm : len ≤ maxLen) (hc : ∀ i, i < zs.length → W.cell? (x.add i) = some (.int k (zs.getD i 0))) : Kd.C (Kd.int k) W (some x) (zs.take len).length (zs.take len) := by
  refine ⟨rfl, by rw [List.length_take]; unfold maxLen at hm; omega, fun hn => ⟨x, rfl, fun j p hj => ⟨[.int k p], rfl, rfl, fun i u hu => ?_⟩⟩⟩
  have hj' := (List.getElem?_eq_some_iff.1 hj).1
  rw [List.length_take] at hj'
  match i, hu with
  | 0, hu =>
    have hu' : Value.int k p = u := by simpa using hu
    rw [show j * (Kd.int k).sz + 0 = j from Nat.mul_one j]
    rw [hc j (by omega), ← hu']
    have : zs.getD j 0 = p := by
      rw [List.getElem?_take_of_lt (by omega)] at hj
      simp [List.getD, hj]
    rw [this]
  | i + 1, hu => simp at hu
theorem kc_none {α : Type} (d : Kd α) : Kd.C d W none ([] : List α).length [] := ⟨rfl, by simp, fun h => by simp at h⟩
theorem opened_ints {t e : TypeId} {k : IntKind} {v : Value} {n : Nat} {y : DataW Hh × List MemPlace} (hu : P.underlying t = some (.slice e)) (he : P.underlying e = some (.int k)) (hc : P.cellsOf e = 1)
    (h : DataW.trod enc P W base spare held n t [v] = some y) :
    ∃ (A : Option Addr) (c : Nat) (l : List Int), v = .slice A l.length c ∧ l.length ≤ c ∧ Kd.C (Kd.int k) W A l.length l ∧ ∀ n ∈ l, (Lit.int k n).wf = true := by
  rcases open_ints hu he hc h with ⟨hcs, hx⟩ | ⟨x, l, c, zs, hcs, _, hl, hm, hz, hx, hcell, hwz⟩
  · simp only [List.cons.injEq, and_true] at hcs
    subst hcs
    exact ⟨none, 0, [], rfl, Nat.zero_le _, kc_none _, by simp⟩
  · simp only [List.cons.injEq, and_true] at hcs
    subst hcs
    have hlz : l ≤ zs.length := by
      rw [hz]
      split
      · exact hl
      · exact Nat.le_refl _
    refine ⟨some x, c, zs.take l, by rw [List.length_take, Nat.min_eq_left hlz], by rw [List.length_take]; omega, kc_ints hlz (Nat.le_trans hl hm) hcell, fun n hn => hwz n (List.mem_of_mem_take hn)⟩
theorem wf_u8 {n : Int} (h : (Lit.int .u8 n).wf = true) : U8 n := by
  simp only [Lit.wf, Bool.and_eq_true, decide_eq_true_eq] at h
  exact h
end
section
variable {Hh : Type} {enc : TypeId × Value → Hh} {W : World} {base : Nat} {spare : Nat → Bool} {held : Bool}
theorem one_u8 {n : Nat} {v : Value} {y : DataW Hh × List MemPlace} (h : DataW.trod enc Try.prog W base spare held n 5 [v] = some y) : ∃ k, v = .int .u8 k ∧ U8 k := by
  obtain ⟨k, hc, _, hw⟩ := DataW.trod_int Try.underlying5 h
  simp only [List.cons.injEq, and_true] at hc
  exact ⟨k, hc, wf_u8 hw⟩
theorem one_bool {n : Nat} {v : Value} {y : DataW Hh × List MemPlace} (h : DataW.trod enc Try.prog W base spare held n 4 [v] = some y) : ∃ b, v = .bool b := by
  obtain ⟨b, hc, _⟩ := DataW.trod_bool Try.underlying4 h
  simp only [List.cons.injEq, and_true] at hc
  exact ⟨b, hc⟩
theorem u8_cells : Try.prog.cellsOf 5 = 1 := by kernel_rfl
theorem bool_cells : Try.prog.cellsOf 4 = 1 := by kernel_rfl
theorem bit_cells : Try.prog.cellsOf 77 = 4 := by kernel_rfl
theorem bit3_cells : Try.prog.cellsOf 101 = 3 := by kernel_rfl
theorem bits_cells : Try.prog.cellsOf 22 = 1 := by kernel_rfl
theorem bits3_cells : Try.prog.cellsOf 26 = 1 := by kernel_rfl
theorem u8s_cells : Try.prog.cellsOf 25 = 1 := by kernel_rfl
theorem u16s_cells : Try.prog.cellsOf 27 = 1 := by kernel_rfl
theorem small_cells : Try.prog.cellsOf 24 = 6 := by kernel_rfl
theorem case_cells : Try.prog.cellsOf 29 = 10 := by kernel_rfl
abbrev CBit3 := S101
set_option maxRecDepth 100000 in
theorem opened_bit {n : Nat} {cs : List Value} {y : DataW Hh × List MemPlace} (h : DataW.trod enc Try.prog W base spare held n 77 cs = some y) :
    ∃ a : CBit, cs = [.int .u8 a.f0, .int .u8 a.f1, .int .u8 a.f2, .int .u8 a.f3] ∧ (U8 a.f0 ∧ U8 a.f1 ∧ U8 a.f2 ∧ U8 a.f3) := by
  obtain ⟨y0, y1, y2, y3, m, _, hl, h0, h1, h2, h3⟩ := trod_struct4 Try.underlying77 h
  rw [bit_cells] at hl
  match cs, hl with
  | [c0, c1, c2, c3], _ =>
    simp only [u8_cells] at h0 h1 h2 h3
    obtain ⟨k0, rfl, r0⟩ := one_u8 h0
    obtain ⟨k1, rfl, r1⟩ := one_u8 h1
    obtain ⟨k2, rfl, r2⟩ := one_u8 h2
    obtain ⟨k3, rfl, r3⟩ := one_u8 h3
    exact ⟨⟨k0, k1, k2, k3⟩, rfl, r0, r1, r2, r3⟩
set_option maxRecDepth 100000 in
theorem opened_bit3 {n : Nat} {cs : List Value} {y : DataW Hh × List MemPlace} (h : DataW.trod enc Try.prog W base spare held n 101 cs = some y) :
    ∃ a : CBit3, cs = [.int .u8 a.f0, .int .u8 a.f1, .int .u8 a.f2] ∧ (U8 a.f0 ∧ U8 a.f1 ∧ U8 a.f2) := by
  obtain ⟨y0, y1, y2, m, _, hl, h0, h1, h2⟩ := trod_struct3 Try.underlying101 h
  rw [bit3_cells] at hl
  match cs, hl with
  | [c0, c1, c2], _ =>
    simp only [u8_cells] at h0 h1 h2
    obtain ⟨k0, rfl, r0⟩ := one_u8 h0
    obtain ⟨k1, rfl, r1⟩ := one_u8 h1
    obtain ⟨k2, rfl, r2⟩ := one_u8 h2
    exact ⟨⟨k0, k1, k2⟩, rfl, r0, r1, r2⟩
set_option maxRecDepth 100000 in
theorem opened_bits {n : Nat} {v : Value} {y : DataW Hh × List MemPlace} (h : DataW.trod enc Try.prog W base spare held n 22 [v] = some y) :
    ∃ (A : Option Addr) (c : Nat) (l : List CBit), v = .slice A l.length c ∧ l.length ≤ c ∧ Kd.C k77 W A l.length l ∧ U8s l := by
  rcases open_slice Try.underlying22 h with ⟨hcs, _⟩ | ⟨a, len, cap, m, n', D, Pl, hcs, hb, hl, hm, hmm, hx, hi⟩
  · simp only [List.cons.injEq, and_true] at hcs
    subst hcs
    exact ⟨none, 0, [], rfl, Nat.le_refl _, kc_none _, fun x hx => by cases hx⟩
  · simp only [List.cons.injEq, and_true] at hcs
    subst hcs
    have hlm : len ≤ m := by
      rw [hmm]
      split
      · exact hl
      · exact Nat.le_refl _
    have hq : ∀ i, ∃ s : CBit, i < len → (U8 s.f0 ∧ U8 s.f1 ∧ U8 s.f2 ∧ U8 s.f3) ∧ ∀ j u, [Value.int .u8 s.f0, .int .u8 s.f1, .int .u8 s.f2, .int .u8 s.f3][j]? = some u → W.cell? (a.add (i * 4 + j)) = some u := by
      intro i
      by_cases hlt : i < len
      · obtain ⟨cs', hc, ht⟩ := hi i (by omega)
        obtain ⟨s, rfl, hr⟩ := opened_bit ht
        rw [bit_cells] at hc
        obtain ⟨_, _, hat⟩ := World.cells?_some hc
        refine ⟨s, fun _ => ⟨hr, fun j u hu => ?_⟩⟩
        have hj : j < 4 := (List.getElem?_eq_some_iff.1 hu).1
        have h4 := hat j hj
        rw [← Go.Deep.add_add, h4, hu]
      · exact ⟨⟨0, 0, 0, 0⟩, fun h => absurd h hlt⟩
    obtain ⟨g, hg⟩ := Classical.axiomOfChoice hq
    have hml : len ≤ 9223372036854775807 := by unfold maxLen at hm; omega
    refine ⟨some a, cap, (List.range len).map g, by simp, by simpa using hl, ⟨by simp, by simpa using hml, fun _ => ⟨a, rfl, fun j p hj => ?_⟩⟩, ?_⟩
    · have hj1 : j < len := by have := (List.getElem?_eq_some_iff.1 hj).1; simpa using this
      have hj2 : g j = p := by
        have := hj
        simp [hj1] at this
        exact this
      subst hj2
      exact ⟨_, rfl, k77_mk W (g j), fun i u hu => (hg j hj1).2 i u hu⟩
    · intro s hs
      obtain ⟨i, hi2, rfl⟩ := List.mem_map.1 hs
      exact (hg i (List.mem_range.1 hi2)).1
set_option maxRecDepth 100000 in
theorem opened_bits3 {n : Nat} {v : Value} {y : DataW Hh × List MemPlace} (h : DataW.trod enc Try.prog W base spare held n 26 [v] = some y) :
    ∃ (A : Option Addr) (c : Nat) (l : List CBit3), v = .slice A l.length c ∧ l.length ≤ c ∧ Kd.C k101 W A l.length l ∧ ∀ s, s ∈ l → U8 s.f0 ∧ U8 s.f1 ∧ U8 s.f2 := by
  rcases open_slice Try.underlying26 h with ⟨hcs, _⟩ | ⟨a, len, cap, m, n', D, Pl, hcs, hb, hl, hm, hmm, hx, hi⟩
  · simp only [List.cons.injEq, and_true] at hcs
    subst hcs
    exact ⟨none, 0, [], rfl, Nat.le_refl _, kc_none _, fun x hx => by cases hx⟩
  · simp only [List.cons.injEq, and_true] at hcs
    subst hcs
    have hlm : len ≤ m := by
      rw [hmm]
      split
      · exact hl
      · exact Nat.le_refl _
    have hq : ∀ i, ∃ s : CBit3, i < len → (U8 s.f0 ∧ U8 s.f1 ∧ U8 s.f2) ∧ ∀ j u, [Value.int .u8 s.f0, .int .u8 s.f1, .int .u8 s.f2][j]? = some u → W.cell? (a.add (i * 3 + j)) = some u := by
      intro i
      by_cases hlt : i < len
      · obtain ⟨cs', hc, ht⟩ := hi i (by omega)
        obtain ⟨s, rfl, hr⟩ := opened_bit3 ht
        rw [bit3_cells] at hc
        obtain ⟨_, _, hat⟩ := World.cells?_some hc
        refine ⟨s, fun _ => ⟨hr, fun j u hu => ?_⟩⟩
        have hj : j < 3 := (List.getElem?_eq_some_iff.1 hu).1
        have h4 := hat j hj
        rw [← Go.Deep.add_add, h4, hu]
      · exact ⟨⟨0, 0, 0⟩, fun h => absurd h hlt⟩
    obtain ⟨g, hg⟩ := Classical.axiomOfChoice hq
    have hml : len ≤ 9223372036854775807 := by unfold maxLen at hm; omega
    refine ⟨some a, cap, (List.range len).map g, by simp, by simpa using hl, ⟨by simp, by simpa using hml, fun _ => ⟨a, rfl, fun j p hj => ?_⟩⟩, ?_⟩
    · have hj1 : j < len := by have := (List.getElem?_eq_some_iff.1 hj).1; simpa using this
      have hj2 : g j = p := by
        have := hj
        simp [hj1] at this
        exact this
      subst hj2
      exact ⟨_, rfl, k101_mk W (g j), fun i u hu => (hg j hj1).2 i u hu⟩
    · intro s hs
      obtain ⟨i, hi2, rfl⟩ := List.mem_map.1 hs
      exact (hg i (List.mem_range.1 hi2)).1
structure CaseAt (W : World) (v : Value) (a0 : Int) (a1 : Bool) (l2 : List CBit) (a3 a4 a5 : Int) (l6 l7 : List Int) (l8 : List CBit3) (l9 : List Int) (A2 : Option Addr) (c2 : Nat) (A6 : Option Addr) (c6 : Nat) (A7 : Option Addr) (c7 : Nat) (A8 : Option Addr) (c8 : Nat) (A9 : Option Addr) (c9 : Nat) : Prop where
  is : v = .agg #[.int .u8 a0, .bool a1, .slice A2 l2.length c2, .int .u8 a3, .int .u8 a4, .int .u8 a5, .slice A6 l6.length c6, .slice A7 l7.length c7, .slice A8 l8.length c8, .slice A9 l9.length c9]
  u0 : U8 a0
  u3 : U8 a3
  u4 : U8 a4
  u5 : U8 a5
  r2 : Kd.C k77 W A2 l2.length l2
  r6 : Kd.C (Kd.int .u8) W A6 l6.length l6
  r7 : Kd.C (Kd.int .u8) W A7 l7.length l7
  r8 : Kd.C k101 W A8 l8.length l8
  r9 : Kd.C (Kd.int .u16) W A9 l9.length l9
  h2 : l2.length ≤ c2
  h6 : l6.length ≤ c6
  h7 : l7.length ≤ c7
  h8 : l8.length ≤ c8
  h9 : l9.length ≤ c9
  u2 : U8s l2
  u6 : U8l l6
  u7 : U8l l7
  u8 : ∀ s, s ∈ l8 → U8 s.f0 ∧ U8 s.f1 ∧ U8 s.f2
  u9 : ∀ n ∈ l9, (Lit.int .u16 n).wf = true
set_option maxRecDepth 100000 in
theorem opened_case {r : Reach} {b0 : Nat} {v : Value} {d : DataW Hh} {p : List MemPlace} (hv : Value.okWide Try.prog W r b0 29 v) (h : DataW.Trod enc Try.prog W base spare held 29 v d p) :
    ∃ a0 a1 l2 a3 a4 a5 l6 l7 l8 l9 A2 c2 A6 c6 A7 c7 A8 c8 A9 c9, CaseAt W v a0 a1 l2 a3 a4 a5 l6 l7 l8 l9 A2 c2 A6 c6 A7 c7 A8 c8 A9 c9 := by
  obtain ⟨cs, rfl, hsz⟩ := okWide_struct Try.underlying29 hv
  obtain ⟨l⟩ := cs
  match l, hsz.trans case_cells with
  | [x0, x1, x2, x3, x4, x5, x6, x7, x8, x9], _ =>
    obtain ⟨fuel, hf⟩ := h
    obtain ⟨m, z, hX⟩ := field_of Try.underlying29 hf 0 _ rfl small_cells (cs' := [x0, x1, x2, x3, x4, x5]) rfl
    obtain ⟨m6, z6, f6⟩ := field_of Try.underlying29 hf 1 _ rfl u8s_cells (cs' := [x6]) rfl
    obtain ⟨m7, z7, f7⟩ := field_of Try.underlying29 hf 2 _ rfl u8s_cells (cs' := [x7]) rfl
    obtain ⟨m8, z8, f8⟩ := field_of Try.underlying29 hf 3 _ rfl bits3_cells (cs' := [x8]) rfl
    obtain ⟨m9, z9, f9⟩ := field_of Try.underlying29 hf 4 _ rfl u16s_cells (cs' := [x9]) rfl
    obtain ⟨_, _, f0⟩ := field_of Try.underlying24 hX 0 _ rfl u8_cells (cs' := [x0]) rfl
    obtain ⟨_, _, f1⟩ := field_of Try.underlying24 hX 1 _ rfl bool_cells (cs' := [x1]) rfl
    obtain ⟨_, _, f2⟩ := field_of Try.underlying24 hX 2 _ rfl bits_cells (cs' := [x2]) rfl
    obtain ⟨_, _, f3⟩ := field_of Try.underlying24 hX 3 _ rfl u8_cells (cs' := [x3]) rfl
    obtain ⟨_, _, f4⟩ := field_of Try.underlying24 hX 4 _ rfl u8_cells (cs' := [x4]) rfl
    obtain ⟨_, _, f5⟩ := field_of Try.underlying24 hX 5 _ rfl u8_cells (cs' := [x5]) rfl
    obtain ⟨a0, rfl, u0⟩ := one_u8 f0
    obtain ⟨a1, rfl⟩ := one_bool f1
    obtain ⟨A2, c2, l2, rfl, h2, r2, u2⟩ := opened_bits f2
    obtain ⟨a3, rfl, u3⟩ := one_u8 f3
    obtain ⟨a4, rfl, u4⟩ := one_u8 f4
    obtain ⟨a5, rfl, u5⟩ := one_u8 f5
    obtain ⟨A6, c6, l6, rfl, h6, r6, u6⟩ := opened_ints Try.underlying25 Try.underlying5 (by kernel_rfl) f6
    obtain ⟨A7, c7, l7, rfl, h7, r7, u7⟩ := opened_ints Try.underlying25 Try.underlying5 (by kernel_rfl) f7
    obtain ⟨A8, c8, l8, rfl, h8, r8, u8⟩ := opened_bits3 f8
    obtain ⟨A9, c9, l9, rfl, h9, r9, u9⟩ := opened_ints Try.underlying27 Try.underlying104 (by kernel_rfl) f9
    exact ⟨a0, a1, l2, a3, a4, a5, l6, l7, l8, l9, A2, c2, A6, c6, A7, c7, A8, c8, A9, c9, rfl, u0, u3, u4, u5, r2, r6, r7, r8, r9, h2, h6, h7, h8, h9, u2, fun x hx => wf_u8 (u6 x hx), fun x hx => wf_u8 (u7 x hx), u8, u9⟩
end
end Go.Proofs.Ytcgdloldkcmhnaa.H
end
section
namespace Go.Proofs.Ytcgdloldkcmhnaa.H
open Go Go.RowKit Go.Proofs.Ytcgdloldkcmhnaa.PrintC Go.Proofs.Ytcgdloldkcmhnaa.PrintE Go.Proofs.YtcgdloldkcmhnaaW.PrintWords Go.Proofs.YtcgdloldkcmhnaaW.PrintLast Go.Proofs.YtcgdloldkcmhnaaW.PrintMore Go.Proofs.Ytcgdloldkcmhnaa.Flow
abbrev lineL : List Arc := [⟨0, 1, 2, 1⟩, ⟨1, 2, 2, 1⟩]
abbrev pL : List Grp := [⟨0, 3⟩]
abbrev qL : List Grp := [⟨2, 5⟩]
theorem line_sm : NetSm 6 (3 : Nat) lineL where
  n2 := by decide
  n5 := by decide
  ll := by decide
  arc x hx := by
    simp only [lineL, List.mem_cons, List.not_mem_nil, or_false] at hx
    rcases hx with rfl | rfl <;> decide
theorem line_gi : GI (3 : Nat) pL qL where
  p0 := by simp
  q0 := by simp
  gp g hg := by
    obtain rfl := List.mem_singleton.1 hg
    decide
  gq g hg := by
    obtain rfl := List.mem_singleton.1 hg
    decide
  dp := by simp
  dq := by simp
  apart g hg x hx := by
    obtain rfl := List.mem_singleton.1 hg
    obtain rfl := List.mem_singleton.1 hx
    decide
theorem line_ask {h : Nat} (hh : h ≤ 16) : AskOk 3 h lineL pL qL := ask_of (m := 6) (by omega) line_sm line_gi hh
theorem useL (x : Arc) : useOf qL x = !decide (x.f0 = 2) := by
  unfold useOf
  rw [hasK_putGs]
  simp [eq_comm]
theorem keepsL (v : Nat) : keepsOf false pL qL v = (decide ((v : Int) = 0) || decide ((v : Int) = 2)) := by
  unfold keepsOf
  rw [hasK_putGs, hasK_putGs]
  simp [eq_comm]
theorem useL_is : useOf qL = fun x => !decide (x.f0 = 2) := funext useL
theorem keepsL_is : keepsOf false pL qL = fun v : Nat => (decide ((v : Int) = 0) || decide ((v : Int) = 2)) := funext keepsL
theorem line2 : evArcs lineL (useOf qL) (keepsOf false pL qL) 3 2 9 10 pL qL = [⟨0, 4, 2, 0⟩, ⟨1, 5, 2, 0⟩, ⟨0, 3, 1099511627776, 0⟩, ⟨2, 5, 1099511627776, 0⟩, ⟨3, 7, 2, 0⟩, ⟨4, 8, 2, 0⟩, ⟨3, 6, 1099511627776, 0⟩, ⟨5, 8, 1099511627776, 0⟩, ⟨9, 0, 3, 0⟩, ⟨8, 10, 5, 0⟩] := by
  rw [useL_is, keepsL_is]
  rfl
theorem line3 : evArcs lineL (useOf qL) (keepsOf false pL qL) 3 3 12 13 pL qL = [⟨0, 4, 2, 0⟩, ⟨1, 5, 2, 0⟩, ⟨0, 3, 1099511627776, 0⟩, ⟨2, 5, 1099511627776, 0⟩, ⟨3, 7, 2, 0⟩, ⟨4, 8, 2, 0⟩, ⟨3, 6, 1099511627776, 0⟩, ⟨5, 8, 1099511627776, 0⟩, ⟨6, 10, 2, 0⟩, ⟨7, 11, 2, 0⟩, ⟨6, 9, 1099511627776, 0⟩, ⟨8, 11, 1099511627776, 0⟩, ⟨12, 0, 3, 0⟩, ⟨11, 13, 5, 0⟩] := by
  rw [useL_is, keepsL_is]
  rfl
theorem line_two : mostV 3 2 false lineL pL qL = 2 := by
  obtain ⟨⟨S, h1, h2, h3⟩, h4⟩ := ((line_ask (h := 2) (by decide)).place).cut false
  have u := h4 (fun v => decide (v = 9) || decide (v = 0) || decide (v = 3) || decide (v = 6) || decide (v = 7)) (by decide) (by decide)
  unfold evCut at u h3
  rw [show evArcs lineL (useOf qL) (keepsOf false pL qL) 3 2 ((2 + 1) * 3) ((2 + 1) * 3 + 1) pL qL = _ from line2] at u h3
  have u2 : cutL (fun v => decide (v = 9) || decide (v = 0) || decide (v = 3) || decide (v = 6) || decide (v = 7)) [⟨0, 4, 2, 0⟩, ⟨1, 5, 2, 0⟩, ⟨0, 3, 1099511627776, 0⟩, ⟨2, 5, 1099511627776, 0⟩, ⟨3, 7, 2, 0⟩, ⟨4, 8, 2, 0⟩, ⟨3, 6, 1099511627776, 0⟩, ⟨5, 8, 1099511627776, 0⟩, ⟨9, 0, 3, 0⟩, ⟨8, 10, 5, 0⟩] = 2 := by decide +kernel
  rw [u2] at u
  have h1' : S 9 = true := h1
  have h2' : S 10 = false := h2
  have lo : 2 ≤ cutL S [⟨0, 4, 2, 0⟩, ⟨1, 5, 2, 0⟩, ⟨0, 3, 1099511627776, 0⟩, ⟨2, 5, 1099511627776, 0⟩, ⟨3, 7, 2, 0⟩, ⟨4, 8, 2, 0⟩, ⟨3, 6, 1099511627776, 0⟩, ⟨5, 8, 1099511627776, 0⟩, ⟨9, 0, 3, 0⟩, ⟨8, 10, 5, 0⟩] := by
    simp only [cutL, cutA, h1', h2']
    generalize S 0 = x0
    generalize S 1 = x1
    generalize S 2 = x2
    generalize S 3 = x3
    generalize S 4 = x4
    generalize S 5 = x5
    generalize S 6 = x6
    generalize S 7 = x7
    generalize S 8 = x8
    revert x0 x1 x2 x3 x4 x5 x6 x7 x8
    decide +kernel
  omega
theorem line_three : mostV 3 3 false lineL pL qL = 3 := by
  have hp := (line_ask (h := 3) (by decide)).place
  obtain ⟨⟨S, h1, h2, h3⟩, -⟩ := hp.cut false
  have u := hp.le_total false
  have ut : totalV pL = 3 := by decide
  rw [ut] at u
  unfold evCut at h3
  rw [show evArcs lineL (useOf qL) (keepsOf false pL qL) 3 3 ((3 + 1) * 3) ((3 + 1) * 3 + 1) pL qL = _ from line3] at h3
  have h1' : S 12 = true := h1
  have h2' : S 13 = false := h2
  have lo : 3 ≤ cutL S [⟨0, 4, 2, 0⟩, ⟨1, 5, 2, 0⟩, ⟨0, 3, 1099511627776, 0⟩, ⟨2, 5, 1099511627776, 0⟩, ⟨3, 7, 2, 0⟩, ⟨4, 8, 2, 0⟩, ⟨3, 6, 1099511627776, 0⟩, ⟨5, 8, 1099511627776, 0⟩, ⟨6, 10, 2, 0⟩, ⟨7, 11, 2, 0⟩, ⟨6, 9, 1099511627776, 0⟩, ⟨8, 11, 1099511627776, 0⟩, ⟨12, 0, 3, 0⟩, ⟨11, 13, 5, 0⟩] := by
    simp only [cutL, cutA, h1', h2']
    generalize S 0 = x0
    generalize S 1 = x1
    generalize S 2 = x2
    generalize S 3 = x3
    generalize S 4 = x4
    generalize S 5 = x5
    generalize S 6 = x6
    generalize S 7 = x7
    generalize S 8 = x8
    generalize S 9 = x9
    generalize S 10 = x10
    generalize S 11 = x11
    revert x0 x1 x2 x3 x4 x5 x6 x7 x8 x9 x10 x11
    decide +kernel
  omega
theorem line_bad {k : Nat} (hk : 300 ≤ k) : evac_Most.f k 3 false lineL pL pL 2 = some (0, 210) := by
  have c1 := check_good (b := false) (line_ask (h := 2) (by decide)).net hk
  have c2 : groupsC 3 pL pL = 210 := by decide +kernel
  have ok : okG pL = true ∧ okG pL = true := ⟨(line_ask (h := 2) (by decide)).okp.1, (line_ask (h := 2) (by decide)).okp.1⟩
  have hb : begunF k 3 false lineL pL pL 2 = some 210 := by
    unfold begunF
    rw [show netfmt_Check.f k 3 false lineL = some 0 from c1, Option.bind_some, if_pos rfl, c2, if_neg (by decide)]
  unfold evac_Most.f
  rw [if_pos ok, hb, Option.bind_some, if_neg (by decide)]
theorem line_most : evac_Most.f 300 3 false lineL pL qL 2 = some (2, 0) := by
  have h2 := (line_ask (h := 2) (by decide)).most false (k := 300) (by decide)
  rw [line_two] at h2
  exact h2
theorem line_least : evac_Least.f 300 3 false lineL pL qL 9 = some (3, true, 0) := by
  have h9 := (line_ask (h := 9) (by decide)).least false (k := 300) (by decide)
  have hp9 := (line_ask (h := 9) (by decide)).place
  have t3 : totalV pL = 3 := by decide
  have e9 : mostV 3 9 false lineL pL qL = totalV pL := by
    have m1 := PlaceOk.mono_le (m := 3) (h := 9) false hp9 (by decide)
    have m2 := hp9.le_total false
    rw [line_three] at m1
    omega
  obtain ⟨f1, f2, f3⟩ := (line_ask (h := 9) (by decide)).first false e9
  have hb : bsr (fun k => mostV 3 k false lineL pL qL == totalV pL) 0 9 = 3 := by
    generalize bsr (fun k => mostV 3 k false lineL pL qL == totalV pL) 0 9 = z at f1 f2 f3
    by_cases c : z < 3
    · have m1 := PlaceOk.mono_le (m := z) (h := 2) false (hp9.le (by decide)) (by omega)
      rw [line_two] at m1
      omega
    · by_cases c2 : 3 < z
      · have := f2 3 c2
        rw [line_three] at this
        omega
      · omega
  rw [hb, if_pos (by simpa using e9), e9] at h9
  rw [show (some (3, true, 0) : Option (Int × Bool × Int)) = some (((3 : Nat) : Int), totalV pL == totalV pL, 0) by simp]
  exact h9
end Go.Proofs.Ytcgdloldkcmhnaa.H
end
section
namespace Go.Proofs.Ytcgdloldkcmhnaa.H
open Go Go.RowKit Go.Proofs.Ytcgdloldkcmhnaa.PrintC Go.Proofs.Ytcgdloldkcmhnaa.PrintE Go.Proofs.YtcgdloldkcmhnaaW.PrintWords Go.Proofs.YtcgdloldkcmhnaaW.PrintLast Go.Proofs.YtcgdloldkcmhnaaW.PrintMore Go.Proofs.Ytcgdloldkcmhnaa.Flow
set_option linter.unusedVariables false
set_option linter.unusedSimpArgs false
theorem arcs_blk {W : World} {g : Nat} {l : List Arc} (hl : l.length ≤ 100000) (h : W.heap[g]? = some (.cells (arcCells l).toArray 79 (0, 0))) : Kd.C kArc W (some ⟨g, 0, none⟩) l.length l := by
  refine ⟨rfl, by omega, fun _ => ⟨_, rfl, fun j p hj => ⟨[.int .i64 p.f0, .int .i64 p.f1, .int .i64 p.f2, .int .i64 p.f3], rfl, k79_mk _ p, fun i u hu => ?_⟩⟩⟩
  have h1 := arcCells_get l j p hj i u hu
  have h2 : W.cell? ⟨g, j * 4 + i, none⟩ = some u := by
    refine (blk_cell h (j * 4 + i)).trans ?_
    rw [List.getElem?_toArray]
    exact h1
  have h3 : (Addr.add ⟨g, 0, none⟩ (j * kArc.sz + i)) = ⟨g, j * 4 + i, none⟩ := by
    have : kArc.sz = 4 := rfl
    rw [this]
    unfold Addr.add
    split
    · rename_i h4
      rw [h4]
    · simp
  rw [h3]
  exact h2
theorem grp_blk {W : World} {g : Nat} {a b : Int} (h : W.heap[g]? = some (.cells #[.int .i64 a, .int .i64 b] 44 (0, 0))) : Kd.C kGrp W (some ⟨g, 0, none⟩) 1 [⟨a, b⟩] := by
  refine ⟨rfl, by simp, fun _ => ⟨_, rfl, fun j p hj => ?_⟩⟩
  have hj0 : j = 0 := by have := (List.getElem?_eq_some_iff.1 hj).1; simpa using this
  subst hj0
  have e : (⟨a, b⟩ : Grp) = p := by simpa using hj
  subst e
  refine ⟨[.int .i64 a, .int .i64 b], rfl, k44_mk _ ⟨a, b⟩, fun i u hu => ?_⟩
  match i, hu with
  | 0, hu => exact (blk_cell h 0).trans hu
  | 1, hu => exact (blk_cell h 1).trans hu
  | i + 2, hu => simp at hu
set_option maxHeartbeats 4000000 in
set_option maxRecDepth 100000 in
theorem line_walk (b : Bool) (w : World) : Calls Try.prog 34 #[.bool b] w fun e w' => ∃ g, e = .returned (.agg #[.int .i64 3, .bool b, .slice (some ⟨g, 0, none⟩) 2 2]) ∧ Kd.C kArc w' (some ⟨g, 0, none⟩) 2 lineL ∧ Below w.heap.size w w' := by
  have hu := Try.underlying32
  go_enter Try.func34, Try.ntmps34
  go_wp2
  refine bodyPost_ret (results_cell_row rfl _ _ w.heap.size 32 #[.int .i64 3, .bool b, .slice (some ⟨w.heap.size + 1, 0, none⟩) 2 2] (0, 0) _ rfl (blk_alloc (heap_alloc_new w _) _) hu rfl (by kernel_rfl)) rfl ?_
  exact ⟨_, rfl, arcs_blk (l := lineL) (by decide) (alloc_at (by simp)), below_alloc (below_alloc (Below.refl _ _) _) _⟩
theorem most_line {A Ap Aq : Option Addr} {w : World} (hA : Kd.C kArc w A 2 lineL) (hp : Kd.C kGrp w Ap 1 pL) (hq : Kd.C kGrp w Aq 1 qL) :
    Calls Try.prog 14 #[.agg #[.int .i64 3, .bool false, .slice A 2 2], .slice Ap 1 1, .slice Aq 1 1, .int .i64 2] w fun e w' => e = .returned (.tuple #[.int .i64 2, .int .i64 0]) ∧ Below w.heap.size w w' :=
  evac_Most.calls 300 3 false A 2 lineL Ap 1 pL Aq 1 qL 2 2 0 w hA (Nat.le_refl _) hp (Nat.le_refl _) hq (Nat.le_refl _) line_most
theorem least_line {A Ap Aq : Option Addr} {w : World} (hA : Kd.C kArc w A 2 lineL) (hp : Kd.C kGrp w Ap 1 pL) (hq : Kd.C kGrp w Aq 1 qL) :
    Calls Try.prog 11 #[.agg #[.int .i64 3, .bool false, .slice A 2 2], .slice Ap 1 1, .slice Aq 1 1, .int .i64 9] w fun e w' => e = .returned (.tuple #[.int .i64 3, .bool true, .int .i64 0]) ∧ Below w.heap.size w w' :=
  evac_Least.calls 300 3 false A 2 lineL Ap 1 pL Aq 1 qL 9 3 true 0 w hA (Nat.le_refl _) hp (Nat.le_refl _) hq (Nat.le_refl _) line_least
theorem bad_line {A Ap : Option Addr} {w : World} (hA : Kd.C kArc w A 2 lineL) (hp : Kd.C kGrp w Ap 1 pL) :
    Calls Try.prog 14 #[.agg #[.int .i64 3, .bool false, .slice A 2 2], .slice Ap 1 1, .slice Ap 1 1, .int .i64 2] w fun e w' => e = .returned (.tuple #[.int .i64 0, .int .i64 210]) ∧ Below w.heap.size w w' :=
  evac_Most.calls 300 3 false A 2 lineL Ap 1 pL Ap 1 pL 2 0 210 w hA (Nat.le_refl _) hp (Nat.le_refl _) hp (Nat.le_refl _) (line_bad (k := 300) (Nat.le_refl _))
set_option maxHeartbeats 4000000 in
set_option maxRecDepth 100000 in
theorem awake_walk (w : World) : Calls Try.prog 13 #[] w fun e w' => e = .returned (.bool true) ∧ Below w.heap.size w w' := by
  have hu := Try.underlying44
  have hu2 := Try.underlying33
  go_enter Try.func13, Try.ntmps13
  go_wp2_with (go_at_call 34; fail)
  have HP := Lib.hid (grp_blk (blk_alloc (heap_alloc_new w (.cells #[.int .i64 0, .int .i64 3] 44)) (.cells #[.int .i64 2, .int .i64 5] 44)))
  have HQ := Lib.hid (grp_blk (g := w.heap.size + 1) (alloc_at (W := w.alloc (.cells #[.int .i64 0, .int .i64 3] 44)) (o := .cells #[.int .i64 2, .int .i64 5] 44) (by simp)))
  have HB0 := Lib.hid (below_alloc (below_alloc (Below.refl w.heap.size w) (.cells #[.int .i64 0, .int .i64 3] 44)) (.cells #[.int .i64 2, .int .i64 5] 44))
  generalize ((w.alloc (.cells #[.int .i64 0, .int .i64 3] 44)).alloc (.cells #[.int .i64 2, .int .i64 5] 44)) = w1 at HP HQ HB0 ⊢
  have HB := Lib.hid (Below.refl w1.heap.size w1)
  go_wp2_with (first
    | (go_at_call 34; (with_reducible refine (line_walk false _).mono ?_); rintro e w2 ⟨g, rfl, hA, hb⟩; (try clear HA); have HA := Lib.hid hA; have HN := Lib.hid (below_step HB.out hb); clear HB; have HB := HN; clear HN hb hA)
    | (go_at_call 14; (with_reducible refine (most_line HA.out (Kd.C_below HP.out HB.out) (Kd.C_below HQ.out HB.out)).mono ?_); rintro e w2 ⟨rfl, hb⟩; have HN := Lib.hid (below_step HB.out hb); clear HB; have HB := HN; clear HN hb)
    | (go_at_call 11; (with_reducible refine (least_line HA.out (Kd.C_below HP.out HB.out) (Kd.C_below HQ.out HB.out)).mono ?_); rintro e w2 ⟨rfl, hb⟩; have HN := Lib.hid (below_step HB.out hb); clear HB; have HB := HN; clear HN hb)
    | (go_at_call 14; (with_reducible refine (bad_line HA.out (Kd.C_below HP.out HB.out)).mono ?_); rintro e w2 ⟨rfl, hb⟩; have HN := Lib.hid (below_step HB.out hb); clear HB; have HB := HN; clear HN hb))
  go_ret
  exact ⟨rfl, below_step HB0.out HB.out⟩
end Go.Proofs.Ytcgdloldkcmhnaa.H
end
section
namespace Go.Proofs.Ytcgdloldkcmhnaa.H
open Go Go.RowKit Go.Proofs.Ytcgdloldkcmhnaa.PrintC Go.Proofs.Ytcgdloldkcmhnaa.PrintE Go.Proofs.YtcgdloldkcmhnaaW.PrintWords Go.Proofs.YtcgdloldkcmhnaaW.PrintLast Go.Proofs.YtcgdloldkcmhnaaW.PrintMore Go.Proofs.Ytcgdloldkcmhnaa.Flow
def ReadAt (m : Nat) (w : World) (e : Ending) (w' : World) : Prop :=
  ∃ (n h : Nat) (b : Bool) (l : List Arc) (p q : List Grp) (A : Option Addr) (c : Nat) (Ap : Option Addr) (cp : Nat) (Aq : Option Addr) (cq : Nat),
    e = .returned (.tuple #[.agg #[.int .i64 n, .bool b, .slice A l.length c], .slice Ap p.length cp, .slice Aq q.length cq, .int .i64 h]) ∧ Kd.C kArc w' A l.length l ∧ l.length ≤ c ∧ Kd.C kGrp w' Ap p.length p ∧ p.length ≤ cp ∧ Kd.C kGrp w' Aq q.length q ∧ q.length ≤ cq ∧
      NetSm m n l ∧ GI n p q ∧ h ≤ 7 ∧ Below w.heap.size w w'
abbrev caseCells (a0 : Int) (a1 : Bool) (l2 : List CBit) (a3 a4 a5 : Int) (l6 l7 : List Int) (l8 : List CBit3) (l9 : List Int) (A2 : Option Addr) (c2 : Nat) (A6 : Option Addr) (c6 : Nat) (A7 : Option Addr) (c7 : Nat) (A8 : Option Addr) (c8 : Nat) (A9 : Option Addr) (c9 : Nat) : Array Value :=
  #[.int .u8 a0, .bool a1, .slice A2 l2.length c2, .int .u8 a3, .int .u8 a4, .int .u8 a5, .slice A6 l6.length c6, .slice A7 l7.length c7, .slice A8 l8.length c8, .slice A9 l9.length c9]
section
variable {a0 : Int} {a1 : Bool} {l2 : List CBit} {a3 a4 a5 : Int} {l6 l7 : List Int} {l8 : List CBit3} {l9 : List Int} {A2 : Option Addr} {c2 : Nat} {A6 : Option Addr} {c6 : Nat} {A7 : Option Addr} {c7 : Nat} {A8 : Option Addr} {c8 : Nat} {A9 : Option Addr} {c9 : Nat} {w : World} {v : Value}
theorem CaseAt.below (o : CaseAt w v a0 a1 l2 a3 a4 a5 l6 l7 l8 l9 A2 c2 A6 c6 A7 c7 A8 c8 A9 c9) {w' : World} (hb : Below w.heap.size w w') : CaseAt w' v a0 a1 l2 a3 a4 a5 l6 l7 l8 l9 A2 c2 A6 c6 A7 c7 A8 c8 A9 c9 :=
  ⟨o.is, o.u0, o.u3, o.u4, o.u5, Kd.C_below o.r2 hb, Kd.C_below o.r6 hb, Kd.C_below o.r7 hb, Kd.C_below o.r8 hb, Kd.C_below o.r9 hb, o.h2, o.h6, o.h7, o.h8, o.h9, o.u2, o.u6, o.u7, o.u8, o.u9⟩
theorem read_at (m : Nat) (i : Int) (hi : i = m) (hm : m ≤ 40) (o : CaseAt w v a0 a1 l2 a3 a4 a5 l6 l7 l8 l9 A2 c2 A6 c6 A7 c7 A8 c8 A9 c9) :
    Calls Try.prog 10 #[.agg (caseCells a0 a1 l2 a3 a4 a5 l6 l7 l8 l9 A2 c2 A6 c6 A7 c7 A8 c8 A9 c9), .int .i64 i] w (ReadAt m w) := by
  subst hi
  obtain ⟨n, h, b, l, p, q, e, hN, hg, hh⟩ := read21 (a0 := a0) (a1 := a1) (bits := l2) (a3 := a3) (a4 := a4) (a5 := a5) (l6 := l6) (l7 := l7) (l8 := l8) (l9 := l9) (m := m) hm o.u0 o.u2 o.u3 o.u4 o.u5 o.u6 o.u7 (k := 100) (by decide)
  refine (ebbtidelaw21_Read.calls 100 a0 a1 A2 c2 l2 a3 a4 a5 A6 c6 l6 A7 c7 l7 A8 c8 l8 A9 c9 l9 m n b l p q h w o.r2 o.h2 o.r6 o.h6 o.r7 o.h7 o.r8 o.h8 o.r9 o.h9 e).mono ?_
  rintro e w' ⟨v2, v3, v4, rfl, h1, h2, h3, hb⟩
  obtain ⟨A, c, rfl⟩ := Kd.R_slice h1
  obtain ⟨Ap, cp, rfl⟩ := Kd.R_slice h2
  obtain ⟨Aq, cq, rfl⟩ := Kd.R_slice h3
  exact ⟨n, h, b, l, p, q, A, c, Ap, cp, Aq, cq, rfl, (Kd.R_reads' h1).2.2, (Kd.R_reads' h1).2.1, (Kd.R_reads' h2).2.2, (Kd.R_reads' h2).2.1, (Kd.R_reads' h3).2.2, (Kd.R_reads' h3).2.1, hN, hg, hh, hb⟩
end
end Go.Proofs.Ytcgdloldkcmhnaa.H
end
