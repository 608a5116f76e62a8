/- word.Words: the pieces between blanks that are not empty. -/
import Derived.Test.YtdjnnkfopgmpaaaDoorHSeq
import Derived.Maps.AppendAt
namespace Go.Proofs.YtdjnnkfopgmpaaaDoor.H
open Go Go.RowKit Go.Shelf Go.Proofs.YtdjnnkfopgmpaaaDoorW.PrintWords
attribute [local go_sem] Oper.semAt_some

/-- An append to a row of the call's own inside a fence, and where the new row lies. -/
theorem appIn {F : Fence} {n : Nat} {P : Program} (w : World) {ops : Array Oper} {rest : List Oper} {o : Oper} {a : Act} {Q : Exit → Act → World → Prop}
    (hg : o.guard = none) (s x : Operand) (t : TypeId) (hop : o.op = Op.call { callee := Callee.builtin Builtin.append, args := #[s, x], argTypes := #[t, t] })
    (base : Nat) (e : TypeId) (i : TypeInfo) (z : Value) (size bytes : Nat) (h1 : P.underlying t = some (.slice e)) (h2 : P.info? e = some i) (h3 : i.zero = some z) (h4 : i.size = size) (h5 : i.bytes = bytes) (h6 : z.cells.size = size) (h7 : 0 < size)
    (v : Value) (k : Nat) (xs : List Value) (hs : a.eval s = v) (hown : w.ownsRow base e size v k xs) (ad : Addr) (m c : Nat) (news : List Value) (hx : a.eval x = .slice (some ad) m c) (hn : news.length = m * size)
    (hc : ∀ j u, news[j]? = some u → w.cell? (ad.add j) = some u) (h1c : ∀ u ∈ news, u.oneCell' = true) (b1 : k + m ≤ maxLen) (b2 : (k + m) * bytes ≤ 140737488355328) (b3 : base ≤ w.heap.size)
    (hK : ∀ v' w', w'.ownsRow base e size v' (k + m) (xs ++ news) → w.grownBy w' v.ownBlock → (v'.ownBlock = v.ownBlock ∨ v'.ownBlock = some w.heap.size) → wpListIn F n P ops Q rest (a.put o.dst v') w') :
    wpListIn F n P ops Q (o :: rest) a w := by
  refine wpListIn_plain hg fun K hK' => ?_
  obtain ⟨v', w', hrun, r1, r2, _, r3⟩ := run_append_own_at (P := P) w base t o.type e i z size bytes h1 h2 h3 h4 h5 h6 h7 v k xs hown ad m c news hn hc h1c b1 b2 b3
  unfold Oper.wpIn
  refine ⟨?_, ?_⟩
  · simp [Oper.about, hop, resolve, Target.leads, Sem.run_pure]
  · rw [Oper.semAt_plain F _ _ (by rw [hop]; intro c hc'; cases hc')]
    simp [execOp, hop, resolve, invoke, builtin, hs, hx, hrun, Result.andThen]
    exact hK' _ _ (hK v' w' r1 r2 r3)

def wordsB (s : ByteArray) : List ByteArray := (piecesB 32 s).filter fun p => decide (p.toList ≠ [])
def keptW (pre : List ByteArray) : List ByteArray := pre.filter fun p => decide (p.toList ≠ [])
theorem keptW_hit (pre : List ByteArray) {x : ByteArray} (h : x.toList ≠ []) : keptW (pre ++ [x]) = keptW pre ++ [x] := by simp [keptW, h]
theorem keptW_miss (pre : List ByteArray) {x : ByteArray} (h : x.toList = []) : keptW (pre ++ [x]) = keptW pre := by simp [keptW, h]

theorem infoStr : (Tryd.prog.info? 9).map (fun i => (i.zero, i.size, i.bytes)) = some (some (.string ⟨#[]⟩), 1, 16) := by kernel_rfl

/-- What the loop keeps: the box of 'out' holds a row of the call's own, apart from the iterator's boxes. -/
def WordsI (H : Nat) (w : World) (pre : List ByteArray) (W : World) : Prop :=
  (∃ v, Boxed W (H + 1) 24 v ∧ W.ownsRow H 9 1 v (keptW pre).length ((keptW pre).map Value.string) ∧ (∀ k, v.ownBlock = some k → k < H + 2 ∨ H + 5 ≤ k)) ∧ Below H w W ∧ H + 5 ≤ W.heap.size

theorem wordsI_stable {H : Nat} {w : World} (hH : w.heap.size = H) (s : List ByteArray) (W W' : World) (row : Option Nat) (h : WordsI H w s W) (hg : W.grownBy W' row)
    (hr : ∀ r, row = some r → r = H + 2 ∨ (H + 5 ≤ r ∧ ∃ o : Obj, W.heap[r]? = some o ∧ o.isCells = false)) : WordsI H w s W' := by
  obtain ⟨⟨v, hv, ho, hk⟩, hb, hs5⟩ := h
  refine ⟨⟨v, hv.kept hg ?_, ho.kept hg ?_, hk⟩, ?_, Nat.le_trans hs5 hg.size⟩
  · intro e
    rcases hr _ e.symm with h | ⟨h, _⟩ <;> omega
  · rcases ho.2 with ⟨rfl, _⟩ | ⟨g, cap, cur, rfl, hbg, hgb, _⟩
    · exact .inl rfl
    · refine .inr fun e => ?_
      have hk' := hk g rfl
      rcases hr g (by simpa [Value.ownBlock] using e.symm) with h | ⟨_, o, h1, h2⟩
      · omega
      · rw [hgb] at h1
        cases h1
        cases h2
  · exact hb.grown hg (Nat.le_trans (Nat.le_of_eq hH.symm) hb.size) (fun k e => by rcases hr k e with h | ⟨h, _⟩ <;> omega)

set_option maxRecDepth 100000 in
set_option maxHeartbeats 1000000 in
theorem words_walk (s : ByteArray) (hs : s.size ≤ 4398046511104) (w : World) :
    Calls Tryd.prog 14 #[.string s] w fun e w' => ∃ v : Value, e = .returned v ∧ w'.ownsRow w.heap.size 9 1 v (wordsB s).length ((wordsB s).map Value.string) ∧ Below w.heap.size w w' := by
  obtain ⟨i0, hi, hz0, hz1, hz2⟩ := info_parts infoStr
  refine (callsIn_wide (n := 3)).1 ?_
  refine callsIn_of_wp_marks Tryd.func14 rfl trivial ?_ rfl
  simp only [Tryd.ntmps14, List.size_toArray, List.length_cons, List.length_nil, Nat.reduceAdd, Nat.reduceSub, Array.replicate_succ, Array.replicate_zero, List.push_toArray, List.append_toArray, List.nil_append, List.cons_append]
  gi_wp2_with (refine ⟨trivial, ?_⟩; gi_at_call 27; refine (callsIn_wide.2 (seq_make s _)).mono ?_; rintro e w' ⟨rfl, rfl⟩)
  obtain ⟨H, hH⟩ : ∃ H, w.heap.size = H := ⟨_, rfl⟩
  simp only [hH]
  obtain ⟨W0, hW0⟩ : ∃ W0, (((((w.alloc (Obj.cells #[] 9)).alloc (Obj.cells #[Value.slice (some { block := H, off := 0 }) 0 0] 24)).alloc (Obj.cells #[Value.string s] 9)).alloc (Obj.cells #[Value.string { data := #[32] }] 9)).alloc (Obj.cells #[Value.int IntKind.i64 0] 3)) = W0 := ⟨_, rfl⟩
  have hsz : W0.heap.size = H + 5 := by rw [← hW0]; simp [hH]
  have hB0 : Below H w W0 := by
    rw [← hW0]
    exact (((((Below.refl H w).alloc (by omega) _).alloc (by simp; omega) _).alloc (by simp; omega) _).alloc (by simp; omega) _).alloc (by simp; omega) _
  have hold : ∀ (W : World) (o : Obj) (k : Nat) (c : Obj), W.heap[k]? = some c → (W.alloc o).heap[k]? = some c := fun W o k c h => (Below.heap_alloc W o k (Array.getElem?_eq_some_iff.1 h).1).trans h
  have hnew : ∀ (W : World) (o : Obj) (k : Nat), W.heap.size = k → (W.alloc o).heap[k]? = some o := fun W o k h => by rw [← h]; exact World.alloc_heap_new W o
  have b0 : Boxed W0 (H + 2) 9 (.string s) := by
    rw [← hW0]
    exact hold _ _ _ _ (hold _ _ _ _ (hnew _ _ _ (by simp [hH])))
  have b1 : Boxed W0 (H + 3) 9 (.string ⟨#[32]⟩) := by
    rw [← hW0]
    exact hold _ _ _ _ (hnew _ _ _ (by simp [hH]))
  have b2 : Boxed W0 (H + 4) 3 (.int .i64 0) := by
    rw [← hW0]
    exact hnew _ _ _ (by simp [hH])
  have hI0 : WordsI H w [] W0 := by
    refine ⟨⟨_, ?_, ⟨rfl, .inr ⟨H, 0, #[], rfl, Nat.le_refl _, ?_, Nat.le_refl _, by unfold maxLen; omega, rfl, rfl⟩⟩, fun k e => ?_⟩, hB0, by omega⟩
    · rw [← hW0]
      exact hold _ _ _ _ (hold _ _ _ _ (hold _ _ _ _ (hnew _ _ _ (by simp [hH]))))
    · rw [← hW0]
      exact hold _ _ _ _ (hold _ _ _ _ (hold _ _ _ _ (hold _ _ _ _ (hnew _ _ _ hH))))
    · have : H = k := by simpa [Value.ownBlock] using e
      omega
  rw [hW0]
  clear hW0
  refine range_box rfl (by omega) (gf := 44) (lb := #[.pointer (some ⟨H + 1 + 1 + 1, 0, none⟩), .pointer (some ⟨H + 1 + 1, 0, none⟩), .pointer (some ⟨H + 1 + 1 + 2, 0, none⟩)]) rfl trivial (enters_of Tryd.func44 (by kernel_rfl) rfl)
    (encs := fun x : ByteArray => #[Value.string x]) (fun _ => rfl) (H + 2) (by omega) (WordsI H w) (fun s W W' row h hg hr => wordsI_stable hH s W W' row h hg (fun r e => by rw [hsz] at hr; exact hr r e))
    (SeqKp (H + 2)) (fun h k i h1 h2 => (k i h1 h2).trans (h i h1 h2)) (fun W l o' hl k h1 h2 => World.putObj_heap_other (by omega)) (piecesB 32 s) ?seq hI0
    (fun x => { tmps := #[.string s, undef, .slice none 0 0, .pointer (some ⟨H + 1, 0, none⟩), .string x, .slice (some ⟨H, 0, none⟩) 0 0, .string s, .func (.func 44) #[] #[.pointer (some ⟨H + 1 + 1 + 1, 0, none⟩), .pointer (some ⟨H + 1 + 1, 0, none⟩), .pointer (some ⟨H + 1 + 1 + 2, 0, none⟩)], .string x, undef, undef, undef, undef, undef, undef, undef], defers := [] }) ?assign ?body ?done
  case seq =>
    intro l J W hW hJ hY h0
    rw [hsz] at hW
    exact seq_walk 2 (by omega) l (H + 2) s (by omega) J hJ hY W h0 ((hW.block _ (by omega)).trans b0) ((hW.block _ (by omega)).trans b1) ((hW.block _ (by omega)).trans b2)
  case assign =>
    intro l x W K hK
    gi_wp2
    exact hK
  case body =>
    rintro l pre x W ⟨⟨v, hv, ho, hk⟩, hb, hs5⟩ hpre
    have hc := hv.cell
    have hpl : (keptW pre).length ≤ pre.length := List.length_filter_le _ _
    have hpn : pre.length + 1 ≤ (piecesB 32 s).length := by simpa using hpre.length_le
    have hpm := piecesB_length 32 s
    by_cases hx : x.toList = []
    · have hxb : (x.toList == ([] : List UInt8)) = true := beq_iff_eq.mpr hx
      gi_wp2
      exact ⟨KeepsOthers.refl _, fun _ _ _ => rfl, ⟨v, hv, by rw [keptW_miss pre hx]; exact ho, hk⟩, hb, hs5⟩
    · have hxb : (x.toList == ([] : List UInt8)) = false := beq_eq_false_iff_ne.mpr hx
      gi_wp2_with (gi_at_builtin; refine appIn _ rfl _ _ 24 rfl H 9 i0 (.string ⟨#[]⟩) 1 16 Tryd.underlying24 hi hz0 hz1 hz2 rfl (by decide) _ _ _ rfl (ho.alloc _) ⟨W.heap.size, 0, none⟩ 1 1 [.string x] rfl rfl (cell_one_new _ _ _) (by simp [Value.oneCell']) (by unfold maxLen; omega) (by omega) (by simp; omega) ?_; intro v' w1 hown' hgrow hat; obtain ⟨g', cap', rfl⟩ := ownsRow_succ hown'; obtain ⟨hv1, hv2, hr2, hk2, hb2⟩ := hv.appended (by decide) ho (by omega) (by omega) hown' hgrow; have hc1 := hv1.cell; have hf1 := hv1.frozen)
      refine ⟨hk2, ?_, ⟨_, hv2, by rw [keptW_hit pre hx]; simpa using hr2, ?_⟩, hb.trans hb2, ?_⟩
      · intro k h1 h2
        refine (Below.heap_setCell w1 ⟨H + 1, 0, none⟩ _ k (by simp; omega)).trans ((hgrow.block k (by simp; omega) ?_).trans (Below.heap_alloc W _ k (by omega)))
        intro e
        rcases hk k e.symm with h | h <;> omega
      · intro k e
        rcases hat with h | h
        · rw [h] at e
          exact hk k e
        · rw [h] at e
          simp at e
          omega
      · have := hgrow.size
        simp at this ⊢
        omega
  case done =>
    rintro D W hD ⟨⟨v, hv, ho, hk⟩, hb, hs5⟩ hK
    have hc := hv.cell
    gi_wp2
    refine ⟨by simp, .inl ⟨_, _, rfl, run_takeDeferred hK, ?_⟩⟩
    rw [hH]
    exact ⟨_, results_tmp rfl _ _ _, v, rfl, ownsRow_putObj ho _ hK rfl, hb.grown (grownBy_putObj' W D _) (by omega) (fun k e => by cases e; omega)⟩

/-- A row of texts of the call's own, in the print's words. -/
theorem kd_strs {w : World} {base : Nat} {v : Value} {xs : List ByteArray} (h : w.ownsRow base 9 1 v xs.length (xs.map Value.string)) : Kd.R Kd.string 9 w base (fun _ => True) v xs :=
  ⟨fun _ _ => trivial, xs.map Value.string, h, by simp [Kd.string, Kd.scalar], fun j p hp => by
    show ((xs.map Value.string).drop (j * 1)).take 1 = [Value.string p]
    rw [Nat.mul_one]
    have hl : j < xs.length := (List.getElem?_eq_some_iff.1 hp).1
    rw [List.drop_eq_getElem_cons (by simpa using hl), List.take_succ_cons, List.take_zero]
    have : xs[j] = p := by simpa [List.getElem?_eq_getElem hl] using hp
    simp [this]⟩

def word_Words.f (a0 : ByteArray) : Option (List ByteArray) := if a0.size ≤ 4398046511104 then some (wordsB a0) else none
theorem word_Words.calls (a0 : ByteArray) (r : List ByteArray) (w : World) (h : word_Words.f a0 = some r) :
    Calls Tryd.prog 14 #[.string a0] w fun e w' => ∃ v0_ : Value, e = .returned (v0_) ∧ Kd.R Kd.string 9 w' w.heap.size (fun _ => True) v0_ r ∧ Below w.heap.size w w' := by
  unfold word_Words.f at h
  split at h
  · rename_i hs
    obtain rfl := Option.some.inj h
    exact (words_walk a0 hs w).mono fun e w' ⟨v, he, ho, hb⟩ => ⟨v, he, kd_strs ho, hb⟩
  · cases h
end Go.Proofs.YtdjnnkfopgmpaaaDoor.H
