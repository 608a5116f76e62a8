/- The iterator of strings.SplitSeq at a blank: it hands every piece on, and keeps the rest in a box of its own. -/
import Derived.Test.YtdjnnkfopgmpaaaDoorHRange
import Derived.Test.YtdjnnkfopgmpaaaDoorHSplit
import Derived.Test.YtdjnnkfopgmpaaaDoorHShelf
import Derived.Test.YtdjnnkfopgmpaaaDoorWWords
import Derived.Test.YtdjnnkfopgmpaaaDoorProg
import Derived.TacticsInMore
import Derived.LoopNIn
import Derived.LoopIn
import Derived.Shelf.RegionOpen
namespace Go.Proofs.YtdjnnkfopgmpaaaDoor.H
open Go Go.RowKit Go.Shelf Go.Proofs.YtdjnnkfopgmpaaaDoorW.PrintWords
attribute [local go_sem] Oper.semAt_some

theorem seq_make (s : ByteArray) (w : World) :
    Calls Tryd.prog 27 #[.string s, .string ⟨#[32]⟩] w fun e w' => e = .returned (.func (.func 44) #[] #[.pointer (some ⟨w.heap.size + 1, 0, none⟩), .pointer (some ⟨w.heap.size, 0, none⟩), .pointer (some ⟨w.heap.size + 2, 0, none⟩)]) ∧
      w' = ((w.alloc (.cells #[.string s] 9)).alloc (.cells #[.string ⟨#[32]⟩] 9)).alloc (.cells #[.int .i64 0] 3) := by
  have h36 : ∀ W : World, Calls Tryd.prog 36 #[.string s, .string ⟨#[32]⟩, .int .i64 0] W fun e w' => e = .returned (.func (.func 44) #[] #[.pointer (some ⟨W.heap.size + 1, 0, none⟩), .pointer (some ⟨W.heap.size, 0, none⟩), .pointer (some ⟨W.heap.size + 2, 0, none⟩)]) ∧
      w' = ((W.alloc (.cells #[.string s] 9)).alloc (.cells #[.string ⟨#[32]⟩] 9)).alloc (.cells #[.int .i64 0] 3) := by
    intro W
    go_enter Tryd.func36, Tryd.ntmps36
    go_wp2
    go_ret
    exact ⟨rfl, rfl⟩
  have H := Lib.hid h36
  clear h36
  go_enter Tryd.func27, Tryd.ntmps27
  go_wp2_with (go_at_call 36; refine (H.out _).mono ?_; rintro e w' ⟨rfl, rfl⟩)
  go_ret
  exact ⟨rfl, rfl⟩

/-- How long the text in a box is. -/
def boxLen (W : World) (B : Nat) : Nat := match W.cell? ⟨B, 0, none⟩ with
  | some (.string t) => t.size
  | _ => 0
theorem boxLen_eq {W : World} {B : Nat} {t : TypeId} {s : ByteArray} (h : Boxed W B t (.string s)) : boxLen W B = s.size := by
  unfold boxLen
  rw [h.cell]

/-- What a round leaves alone: the iterator's three boxes. -/
def SeqKp (B : Nat) (W W' : World) : Prop := ∀ k, B ≤ k → k ≤ B + 2 → W'.heap[k]? = W.heap[k]?
theorem SeqKp.boxed {B k : Nat} {W W' : World} {t : TypeId} {v : Value} (h : SeqKp B W W') (h1 : B ≤ k) (h2 : k ≤ B + 2) (hb : Boxed W k t v) : Boxed W' k t v := (h k h1 h2).trans hb

set_option maxRecDepth 100000 in
set_option maxHeartbeats 1000000 in
theorem seq_walk (n : Nat) (hn : 1 ≤ n) (l B : Nat) (s : ByteArray) (hs : s.size ≤ 140737488355328) (J : List ByteArray → World → Prop)
    (hJ : ∀ s A B' row, J s A → A.grownBy B' row → (∀ r, row = some r → r = B) → J s B')
    (hY : ∀ pre x W1, J pre W1 → pre ++ [x] <+: piecesB 32 s → YieldAt Fence.wide (n - 1) Tryd.prog l #[.string x] W1 fun e W' => e = .returned (.bool true) ∧ J (pre ++ [x]) W' ∧ SeqKp B W1 W')
    (W : World) (h0 : J [] W) (hb0 : Boxed W B 9 (.string s)) (hb1 : Boxed W (B + 1) 9 (.string ⟨#[32]⟩)) (hb2 : Boxed W (B + 2) 3 (.int .i64 0)) :
    CallsIn Fence.wide n Tryd.prog 44 #[.func (.yield l) #[] #[], .pointer (some ⟨B + 1, 0, none⟩), .pointer (some ⟨B, 0, none⟩), .pointer (some ⟨B + 2, 0, none⟩)] W fun e W' => (∃ v, e = .returned v) ∧ J (piecesB 32 s) W' := by
  have c0 := hb0.cell
  have c1 := hb1.cell
  refine callsIn_of_wp Tryd.func44 rfl trivial ?_ rfl
  simp only [Tryd.ntmps44, List.size_toArray, List.length_cons, List.length_nil, Nat.reduceAdd, Nat.reduceSub, Array.replicate_succ, Array.replicate_zero, List.push_toArray, List.append_toArray, List.nil_append, List.cons_append]
  gi_wp2
  gi_loopw [] (fun wr => ∃ (pre : List ByteArray) (t : ByteArray), Boxed wr B 9 (.string t) ∧ Boxed wr (B + 1) 9 (.string ⟨#[32]⟩) ∧ Boxed wr (B + 2) 3 (.int .i64 0) ∧ Hid (piecesB 32 s = pre ++ piecesB 32 t) ∧ t.size ≤ 140737488355328 ∧ J pre wr) (fun wr => boxLen wr B)
  case atStart => exact ⟨[], s, hb0, hb1, hb2, rfl, hs, h0⟩
  case round =>
    obtain ⟨pre, t, k0, k1, k2, hx, hts, hj⟩ := hrel
    have c0 := k0.cell
    have c1 := k1.cell
    have c2 := k2.cell
    rcases indexByte_split 32 t.data.toList with ⟨h1, h2⟩ | ⟨i, h1, h2, h3, h4⟩
    · have hp : piecesB 32 t = [t] := piecesB_none 32 t h2
      have he : piecesB 32 s = pre ++ [t] := by rw [hx, hp]
      obtain ⟨fn, tmps, assign, body, hy, hR⟩ := hY pre t wr hj (by rw [he]; exact List.prefix_rfl)
      have hi : ∀ W : World, Calls Tryd.prog 42 #[.string t, .string ⟨#[32]⟩] W fun e w' => e = .returned (.int .i64 (-1)) ∧ W = w' := fun W => by
        refine (Tryd.strings_Index_one t 32 W).mono ?_
        rintro e w' ⟨rfl, rfl⟩
        exact ⟨by rw [h1], rfl⟩
      replace hi := Lib.hid hi
      replace he := Lib.hid he
      clear h1 hp
      gi_wp2_with (refine ⟨trivial, ?_⟩; gi_at_call 42; refine (callsIn_wide.2 (hi.out _)).mono ?_; rintro e w' ⟨rfl, rfl⟩)
      refine hR.mono ?_
      rintro e W3 ⟨rfl, hJ3, _⟩
      gi_wp2
      go_end0
      exact ⟨⟨_, rfl⟩, by rw [he.out]; exact hJ3⟩
    · have hp : piecesB 32 t = t.extract 0 i :: piecesB 32 (t.extract (i + 1) t.size) := piecesB_step 32 t i h3 h4
      have he : piecesB 32 s = pre ++ [t.extract 0 i] ++ piecesB 32 (t.extract (i + 1) t.size) := by rw [hx, hp]; simp
      obtain ⟨fn, tmps, assign, body, hy, hR⟩ := hY pre (t.extract 0 i) wr hj (by rw [he]; exact List.prefix_append _ _)
      have hi : ∀ W : World, Calls Tryd.prog 42 #[.string t, .string ⟨#[32]⟩] W fun e w' => e = .returned (.int .i64 i) ∧ W = w' := fun W => by
        refine (Tryd.strings_Index_one t 32 W).mono ?_
        rintro e w' ⟨rfl, rfl⟩
        exact ⟨by rw [h1], rfl⟩
      replace hi := Lib.hid hi
      replace he := Lib.hid he
      have hlt : i < t.size := by simpa using h2
      clear h1 hp h2 h3
      gi_wp2_with (refine ⟨trivial, ?_⟩; gi_at_call 42; refine (callsIn_wide.2 (hi.out _)).mono ?_; rintro e w' ⟨rfl, rfl⟩)
      refine hR.mono ?_
      rintro e W3 ⟨rfl, hJ3, hk3⟩
      have q0 := hk3.boxed (Nat.le_refl _) (by omega) k0
      have q1 := hk3.boxed (by omega) (by omega) k1
      have q2 := hk3.boxed (by omega) (by omega) k2
      have d0 := q0.cell
      have d1 := q1.cell
      have d2 := q2.cell
      have f0 := q0.frozen
      gi_wp2
      go_roundw
      case rel =>
        refine ⟨pre ++ [t.extract 0 i], t.extract (i + 1) t.size, q0.set _, ?_, ?_, Lib.hid he.out, ?_, ?_⟩
        · exact q1.kept (grownBy_setCell' _ _ _) (by intro e; injection e with e; omega)
        · exact q2.kept (grownBy_setCell' _ _ _) (by intro e; injection e with e; omega)
        · simp [ByteArray.size_extract]; omega
        · exact hJ _ _ _ _ hJ3 (grownBy_setCell' _ _ _) (fun r e => by cases e; rfl)
      case measure =>
        rw [boxLen_eq (q0.set _), boxLen_eq k0]
        simp [ByteArray.size_extract]
        omega
end Go.Proofs.YtdjnnkfopgmpaaaDoor.H
