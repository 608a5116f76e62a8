/- Joined texts: HNetHead, HNums, HNetTail, HNetParse, HNetPrint. -/
import Derived.Test.YthalacoockoomaaDoorPrint
import Derived.Deep.RegionHeld3
import Derived.Deep.RegionLaw
/- netfmt.head: a net line taken up. -/
namespace Go.Proofs.YthalacoockoomaaDoor.H
open Go Go.RowKit Go.Proofs.YthalacoockoomaaDoor.Print Go.Proofs.YthalacoockoomaaDoorW.PrintWords Go.Proofs.YthalacoockoomaaDoorW.PrintLast

/-- A network under way at block g of W: its arcs are a row of the call's own. -/
def NetAt (w0 W : World) (g : Nat) (n : Int) (b : Bool) (l : List S37) : Prop :=
  ∃ v, W.heap[g]? = some (.cells #[.int .i64 n, .bool b, v] 24 (0, 0)) ∧ w0.heap.size ≤ g ∧ Kd.R k37 37 W w0.heap.size (fun _ => True) v l
theorem NetAt.below {w0 W W1 : World} {g : Nat} {n : Int} {b : Bool} {l : List S37} (h : NetAt w0 W g n b l) (hb : Below W.heap.size W W1) : NetAt w0 W1 g n b l := by
  obtain ⟨v, hg, hge, hR⟩ := h
  exact ⟨v, blk_grown hg (grown_of_below hb none) (by simp), hge, Kd.R_below hR hb⟩

/-- What is kept: all but the network's block and rows of arcs. -/
def Keeps (g : Nat) (w w' : World) : Prop := ∀ k cs t fr, w.heap[k]? = some (.cells cs t fr) → t ≠ 37 → k ≠ g → w'.heap[k]? = some (.cells cs t fr)
theorem Keeps.refl (g : Nat) (w : World) : Keeps g w w := fun _ _ _ _ h _ _ => h
theorem Keeps.trans {g : Nat} {w w1 w2 : World} (h : Keeps g w w1) (k : Keeps g w1 w2) : Keeps g w w2 := fun _ _ _ _ hc ht hg => k _ _ _ _ (h _ _ _ _ hc ht hg) ht hg
theorem Keeps.below (g : Nat) {w w1 : World} (h : Below w.heap.size w w1) : Keeps g w w1 := fun k _ _ _ hc _ _ => (h.block k (Array.getElem?_eq_some_iff.1 hc).1).trans hc
theorem Keeps.set (g : Nat) (w : World) (j : Nat) (u : Value) : Keeps g w (w.setCell ⟨g, j, none⟩ u) := fun k _ _ _ hc _ hg => (Below.heap_setCell w ⟨g, j, none⟩ u k hg).trans hc
theorem Keeps.grown {g : Nat} {w w1 : World} {base n : Nat} {v : Value} {xs : List Value} (ho : w.ownsRow base 37 4 v n xs) (hg : w.grownBy w1 v.ownBlock) : Keeps g w w1 := fun k cs t fr hc ht _ => by
  refine (hg.block k (Array.getElem?_eq_some_iff.1 hc).1 ?_).trans hc
  intro e
  rcases ho.2 with ⟨rfl, _⟩ | ⟨g', cap, cur, rfl, _, hh, _⟩
  · simp [Value.ownBlock] at e
  · have : g' = k := by simpa [Value.ownBlock] using e.symm
    subst this
    rw [hh] at hc
    injection hc with hc
    injection hc with _ h2
    exact ht h2.symm
theorem row_kept {g : Nat} {w1 W : World} {base : Nat} {v : Value} {xs : List ByteArray} (h : Kd.R Kd.string 9 w1 base (fun _ => True) v xs) (hk : Keeps g w1 W) {cs : Array Value} (hg : w1.heap[g]? = some (.cells cs 24 (0, 0))) : Kd.R Kd.string 9 W base (fun _ => True) v xs := by
  refine Kd.R_mono (Kd.R_step (Kd.R_bound h) ?_) (fun _ _ => trivial)
  rintro k ⟨_, _, _, q, hq, cells, hc⟩ _
  have hq' : q = 9 := by simpa [Kd.string, Kd.scalar] using hq
  subst hq'
  rw [hk k cells 9 (0, 0) hc (by decide) ?_, hc]
  rintro rfl
  rw [hg] at hc
  injection hc with hc
  injection hc with _ h2
  exact absurd h2 (by decide)

def nodesF (n : Int) : Int := if n < 1 then 51 else if n > 50 then 2 else 0
theorem nodes_f (n : Int) : netfmt_nodes.f n = some (nodesF n) := by
  unfold netfmt_nodes.f nodesF
  split
  · rfl
  · split <;> rfl
def numAt (l : List ByteArray) (i : Int) : Int × Int := numF (rdOf ByteArray.empty l i).data.toList
def headOk (l : List ByteArray) : Bool := (l.length : Int) == 3 && (rdOf ByteArray.empty l 0).toList == ([110, 101, 116] : List UInt8) && ((rdOf ByteArray.empty l 2).toList == ([104, 111, 108, 100] : List UInt8) || (rdOf ByteArray.empty l 2).toList == ([102, 114, 101, 101] : List UInt8))
def headE (l : List ByteArray) : Int := if (numAt l 1).2 = 0 then nodesF (numAt l 1).1 else (numAt l 1).2
def headF (n : Int) (b : Bool) (l : List ByteArray) : Int × Int × Bool :=
  if headOk l = true then (headE l, (numAt l 1).1, (rdOf ByteArray.empty l 2).toList == ([104, 111, 108, 100] : List UInt8)) else (50, n, b)

set_option maxHeartbeats 2000000 in
theorem head_walk (g : Nat) (n : Int) (b : Bool) (l : List S37) (A1 : Option Addr) (c1 : Nat) (l1 : List ByteArray) (w0 w : World) (hI : NetAt w0 w g n b l) (hB : Below w0.heap.size w0 w)
    (hr1 : Kd.C Kd.string w A1 l1.length l1) (hne : ∀ ad, A1 = some ad → 0 < l1.length → ad.block ≠ g) :
    Calls Tryd.prog 33 #[.pointer (some ⟨g, 0, none⟩), .slice A1 l1.length c1] w fun e w' => e = .returned (.int .i64 (headF n b l1).1) ∧ NetAt w0 w' g (headF n b l1).2.1 (headF n b l1).2.2 l ∧ Below w0.heap.size w0 w' ∧ Keeps g w w' := by
  have HI := Lib.hid hI
  have HB := Lib.hid hB
  have HK := Lib.hid (Keeps.refl g w)
  clear hI hB
  by_cases h3 : (l1.length : Int) = 3
  case neg =>
    have c4b1 : ((l1.length : Int) != 3) = true := bne_iff_ne.mpr h3
    have hF : headF n b l1 = (50, n, b) := by simp [headF, headOk, h3]
    rw [hF]
    clear hF
    go_enter Tryd.func33, Tryd.ntmps33
    go_wp2
    go_ret
    exact ⟨rfl, HI, HB, Keeps.refl _ _⟩
  have p0 : 0 ≤ (0 : Int) := by omega
  obtain ⟨ad, rfl, x0⟩ := Kd.at_string hr1 0 p0 (by omega)
  obtain ⟨ad1, e1, x1⟩ := Kd.at_string hr1 1 (by omega) (by omega)
  obtain rfl : ad = ad1 := by injection e1
  obtain ⟨ad2, e2, x2⟩ := Kd.at_string hr1 2 (by omega) (by omega)
  obtain rfl : ad = ad2 := by injection e2
  clear e1 e2
  have hna : ad.block ≠ g := hne ad rfl (by omega)
  rw [show ((0 : Int)).toNat = 0 from rfl, Addr.add_zero'] at x0
  simp only [show (1 : Int).toNat = 1 from rfl, Nat.reduceEqDiff, Go.Addr.add, ↓reduceIte] at x1
  simp only [show (2 : Int).toNat = 2 from rfl, Nat.reduceEqDiff, Go.Addr.add, ↓reduceIte] at x2
  have hl : l1.length = 3 := by omega
  have c4b1 : ((l1.length : Int) != 3) = false := bne_eq_false_iff_eq.mpr h3
  have q0 : (0 < l1.length) = True := eq_true (by omega)
  have q1 : (1 < l1.length) = True := eq_true (by omega)
  have q2 : (2 < l1.length) = True := eq_true (by omega)
  have Q0 : (0 < (l1.length : Int)) = True := eq_true (by omega)
  have Q1 : (1 < (l1.length : Int)) = True := eq_true (by omega)
  have Q2 : (2 < (l1.length : Int)) = True := eq_true (by omega)
  by_cases h0 : (rdOf ByteArray.empty l1 0).toList = ([110, 101, 116] : List UInt8)
  case neg =>
    have h0b : ((rdOf ByteArray.empty l1 0).toList != ([110, 101, 116] : List UInt8)) = true := bne_iff_ne.mpr h0
    have h0c : ((rdOf ByteArray.empty l1 0).toList == ([110, 101, 116] : List UInt8)) = false := beq_eq_false_iff_ne.mpr h0
    have hF : headF n b l1 = (50, n, b) := by simp [headF, headOk, h0]
    rw [hF]
    clear hF
    go_enter Tryd.func33, Tryd.ntmps33
    go_wp2
    go_ret
    exact ⟨rfl, HI, HB, Keeps.refl _ _⟩
  have h0b : ((rdOf ByteArray.empty l1 0).toList != ([110, 101, 116] : List UInt8)) = false := bne_eq_false_iff_eq.mpr h0
  have h0c : ((rdOf ByteArray.empty l1 0).toList == ([110, 101, 116] : List UInt8)) = true := beq_iff_eq.mpr h0
  clear h0
  by_cases hg : headOk l1 = true
  case neg =>
    have h2 : (rdOf ByteArray.empty l1 2).toList ≠ ([104, 111, 108, 100] : List UInt8) ∧ (rdOf ByteArray.empty l1 2).toList ≠ ([102, 114, 101, 101] : List UInt8) := by
      simp [headOk, h0c, h3] at hg
      exact hg
    have h2b : ((rdOf ByteArray.empty l1 2).toList != ([104, 111, 108, 100] : List UInt8)) = true := bne_iff_ne.mpr h2.1
    have h2c : ((rdOf ByteArray.empty l1 2).toList != ([102, 114, 101, 101] : List UInt8)) = true := bne_iff_ne.mpr h2.2
    have hF : headF n b l1 = (50, n, b) := by simp [headF, hg]
    rw [hF]
    have h2d : ((rdOf ByteArray.empty l1 2).toList == ([104, 111, 108, 100] : List UInt8)) = false := beq_eq_false_iff_ne.mpr h2.1
    have h2e : ((rdOf ByteArray.empty l1 2).toList == ([102, 114, 101, 101] : List UInt8)) = false := beq_eq_false_iff_ne.mpr h2.2
    clear hF h2 hg
    go_enter Tryd.func33, Tryd.ntmps33
    go_wp2
    go_ret
    exact ⟨rfl, HI, HB, Keeps.refl _ _⟩
  have hF : headF n b l1 = (headE l1, (numAt l1 1).1, (rdOf ByteArray.empty l1 2).toList == ([104, 111, 108, 100] : List UInt8)) := by simp [headF, hg]
  rw [hF]
  have h2 : (((rdOf ByteArray.empty l1 2).toList == ([104, 111, 108, 100] : List UInt8)) = true ∧ ((rdOf ByteArray.empty l1 2).toList != ([104, 111, 108, 100] : List UInt8)) = false) ∨
      (((rdOf ByteArray.empty l1 2).toList == ([104, 111, 108, 100] : List UInt8)) = false ∧ ((rdOf ByteArray.empty l1 2).toList != ([104, 111, 108, 100] : List UInt8)) = true ∧ ((rdOf ByteArray.empty l1 2).toList == ([102, 114, 101, 101] : List UInt8)) = true ∧ ((rdOf ByteArray.empty l1 2).toList != ([102, 114, 101, 101] : List UInt8)) = false) := by
    simp [headOk, h0c, h3] at hg
    by_cases e : (rdOf ByteArray.empty l1 2).toList = ([104, 111, 108, 100] : List UInt8)
    · exact .inl ⟨beq_iff_eq.mpr e, bne_eq_false_iff_eq.mpr e⟩
    · exact .inr ⟨beq_eq_false_iff_ne.mpr e, bne_iff_ne.mpr e, beq_iff_eq.mpr (hg.resolve_left e), bne_eq_false_iff_eq.mpr (hg.resolve_left e)⟩
  clear hF hg
  have hnum : ∀ W : World, Calls Tryd.prog 47 #[.string (rdOf ByteArray.empty l1 1)] W fun e w' => e = .returned (.tuple #[.int .i64 (numAt l1 1).1, .int .i64 (numAt l1 1).2]) ∧ Below W.heap.size W w' := fun W => word_Number.calls _ _ _ W rfl
  have hnod : ∀ W : World, Calls Tryd.prog 26 #[.int .i64 (numAt l1 1).1] W fun e w' => e = .returned (.int .i64 (nodesF (numAt l1 1).1)) ∧ Below W.heap.size W w' := fun W => (netfmt_nodes.calls _ _ W (nodes_f _)).mono fun e w' ⟨he, nd, hn⟩ => ⟨he, hn ▸ pw_below_drewN (Below.refl _ _) nd⟩
  replace hnum := Lib.hid hnum
  replace hnod := Lib.hid hnod
  have fin : ∀ W W2 : World, NetAt w0 W g n b l → Below w0.heap.size w0 W → ∀ k (bb : Bool), W2 = (W.setCell ⟨g, 0, none⟩ (.int .i64 k)).setCell ⟨g, 1, none⟩ (.bool bb) → NetAt w0 W2 g k bb l ∧ Below w0.heap.size w0 W2 ∧ Keeps g W W2 := by
    rintro W W2 ⟨v, hb, hge, hR⟩ hB k bb rfl
    have b1 := blk_set hb 0 (.int .i64 k)
    have b2 := blk_set b1 1 (.bool bb)
    refine ⟨⟨v, by simpa using b2, hge, Kd.R_set (Kd.R_set hR hb (by decide) 0 _) b1 (by decide) 1 _⟩, below_set (below_set hB hge) hge, (Keeps.set g W 0 _).trans (Keeps.set g _ 1 _)⟩
  replace fin := Lib.hid fin
  by_cases he : (numAt l1 1).2 = 0
  · have heb : ((numAt l1 1).2 == 0) = true := beq_iff_eq.mpr he
    have heb2 : ((numAt l1 1).2 != 0) = false := bne_eq_false_iff_eq.mpr he
    have hE : headE l1 = nodesF (numAt l1 1).1 := by simp [headE, he]
    rw [hE]
    clear hE he
    rcases h2 with ⟨h2, h2b⟩ | ⟨h2, h2b, h2c, h2d⟩
    all_goals
      rw [h2]
      go_enter Tryd.func33, Tryd.ntmps33
      go_wp2_with (first
        | (go_at_call 47; refine (hnum.out _).mono ?_; rintro e w1 ⟨rfl, hb⟩; have x2 := pw_cell_below hb x2; replace HI := Lib.hid (NetAt.below HI hb); replace HB := Lib.hid (below_step HB hb); replace HK := Lib.hid (Keeps.trans HK (Keeps.below g hb)); clear hb)
        | (go_at_call 26; refine (hnod.out _).mono ?_; rintro e w2 ⟨rfl, hb⟩; have x2 := pw_cell_below hb x2; replace HI := Lib.hid (NetAt.below HI hb); replace HB := Lib.hid (below_step HB hb); replace HK := Lib.hid (Keeps.trans HK (Keeps.below g hb)); clear hb; obtain ⟨v, hgb, _, _⟩ := HI.out; have hc0 := (blk_cell hgb 0).trans rfl; have hc1 := (blk_cell hgb 1).trans rfl; have hf0 := blk_frozen hgb 0; have hf1 := blk_frozen hgb 1; clear hgb))
      go_ret
      obtain ⟨f1, f2, f3⟩ := fin.out _ _ HI.out HB.out _ _ rfl
      exact ⟨rfl, f1, f2, Keeps.trans HK f3⟩
  · have heb : ((numAt l1 1).2 == 0) = false := beq_eq_false_iff_ne.mpr he
    have hE : headE l1 = (numAt l1 1).2 := by simp [headE, he]
    rw [hE]
    clear hE he
    rcases h2 with ⟨h2, h2b⟩ | ⟨h2, h2b, h2c, h2d⟩
    all_goals
      rw [h2]
      go_enter Tryd.func33, Tryd.ntmps33
      go_wp2_with (first
        | (go_at_call 47; refine (hnum.out _).mono ?_; rintro e w1 ⟨rfl, hb⟩; have x2 := pw_cell_below hb x2; replace HI := Lib.hid (NetAt.below HI hb); replace HB := Lib.hid (below_step HB hb); replace HK := Lib.hid (Keeps.trans HK (Keeps.below g hb)); clear hb; obtain ⟨v, hgb, _, _⟩ := HI.out; have hc0 := (blk_cell hgb 0).trans rfl; have hc1 := (blk_cell hgb 1).trans rfl; have hf0 := blk_frozen hgb 0; have hf1 := blk_frozen hgb 1; clear hgb))
      go_ret
      obtain ⟨f1, f2, f3⟩ := fin.out _ _ HI.out HB.out _ _ rfl
      exact ⟨rfl, f1, f2, Keeps.trans HK f3⟩
end Go.Proofs.YthalacoockoomaaDoor.H

/- word.Numbers on few texts. -/
namespace Go.Proofs.YthalacoockoomaaDoor.H
open Go Go.RowKit Go.Proofs.YthalacoockoomaaDoor.Print Go.Proofs.YthalacoockoomaaDoorW.PrintWords Go.Proofs.YthalacoockoomaaDoorW.PrintLast

theorem w1n (i : Nat) (h : i ≤ 4611686018427387904) : wrap64 ((i : Int) + 1) = ((i + 1 : Nat) : Int) := by
  unfold wrap64
  omega
def numsGo : List ByteArray → List Int → List Int × Int
  | [], acc => (acc, 0)
  | s :: r, acc => if (numF s.data.toList).2 = 0 then numsGo r (acc ++ [(numF s.data.toList).1]) else ([], (numF s.data.toList).2)

theorem rdOf_at (l : List ByteArray) (i : Nat) (h : i < l.length) : rdOf ByteArray.empty l (i : Int) = l[i] := by simp [rdOf, h]
theorem set_next (acc : List Int) (n : Nat) (v : Int) : (acc ++ List.replicate (n + 1) 0).set acc.length v = acc ++ [v] ++ List.replicate n 0 := by
  rw [List.set_append_right _ _ (Nat.le_refl _), Nat.sub_self, List.replicate_succ, List.set_cons_zero, List.append_assoc]
  rfl

theorem nums_go (l : List ByteArray) (hl : l.length ≤ 300) : ∀ (d i : Nat) (acc : List Int), i + d = l.length → acc.length = i →
    Ev (fun k => word_Numbers.l0 k l (acc ++ List.replicate d 0) (l.length : Int) (i : Int)) (numsGo (l.drop i) acc)
  | 0, i, acc, hi, ha => by
    rw [List.drop_eq_nil_of_le (by omega), numsGo]
    refine Ev.step (f := fun _ => _) (fun k => ?_) (Ev.now _)
    simp only [word_Numbers.l0]
    rw [if_neg (by omega), List.replicate_zero, List.append_nil]
  | d + 1, i, acc, hi, ha => by
    have hlt : i < l.length := by omega
    rw [List.drop_eq_getElem_cons hlt, numsGo]
    by_cases hz : (numF l[i].data.toList).2 = 0
    · rw [if_pos hz]
      refine Ev.step (fun k => ?_) (nums_go l hl d (i + 1) (acc ++ [(numF l[i].data.toList).1]) (by omega) (by simp [ha]))
      simp only [word_Numbers.l0]
      rw [if_pos (by omega), if_pos (by omega), if_pos (by omega), rdOf_at l i hlt, word_Number.f, Option.bind_some, if_pos hz, if_pos (by simp; omega), Int.toNat_natCast, w1n i (by omega), ← set_next, ha]
    · rw [if_neg hz]
      refine Ev.step (f := fun _ => _) (fun k => ?_) (Ev.now _)
      simp only [word_Numbers.l0]
      rw [if_pos (by omega), if_pos (by omega), if_pos (by omega), rdOf_at l i hlt, word_Number.f, Option.bind_some, if_neg hz]


theorem nums_ev (l : List ByteArray) (hl : l.length ≤ 300) : ∃ k, word_Numbers.f k l = some (numsGo l []) := by
  refine Ev.rounds (g := fun k => word_Numbers.f k l) (Ev.congr (fun k => ?_) (nums_go l hl l.length 0 [] (by omega) rfl))
  unfold word_Numbers.f
  rw [if_pos (by omega), if_pos (by rw [Int.toNat_natCast]; omega), Int.toNat_natCast, List.nil_append]
  rfl
end Go.Proofs.YthalacoockoomaaDoor.H

/- netfmt.tail: an arc line taken up. -/
namespace Go.Proofs.YthalacoockoomaaDoor.H
open Go Go.RowKit Go.Proofs.YthalacoockoomaaDoor.Print Go.Proofs.YthalacoockoomaaDoorW.PrintWords Go.Proofs.YthalacoockoomaaDoorW.PrintLast

def arcF (n : Int) (a : S37) : Int := if a.f0 < 0 ∨ a.f1 < 0 ∨ a.f2 < 0 ∨ a.f3 < 0 ∨ n ≤ a.f0 ∨ n ≤ a.f1 then 51 else if a.f2 > 1048576 ∨ a.f3 > 1048576 then 2 else 0
def arcOf (xs : List Int) : S37 := ⟨rd xs 0, rd xs 1, rd xs 2, rd xs 3⟩
def tailF (n : Int) (l : List S37) (l1 : List ByteArray) : Int × List S37 :=
  if ((l1.length : Int) == 5 && (rdOf ByteArray.empty l1 0).toList == ([97, 114, 99] : List UInt8)) = true then
    if (numsGo (l1.drop 1) []).2 = 0 then
      if arcF n (arcOf (numsGo (l1.drop 1) []).1) = 0 then (if l.length = 200 then (2, l) else (0, l ++ [arcOf (numsGo (l1.drop 1) []).1]))
      else (arcF n (arcOf (numsGo (l1.drop 1) []).1), l)
    else ((numsGo (l1.drop 1) []).2, l)
  else (50, l)
theorem numsGo_len0 : ∀ (l : List ByteArray) (acc : List Int), (numsGo l acc).2 = 0 → (numsGo l acc).1.length = acc.length + l.length
  | [], acc, _ => by simp [numsGo]
  | s :: r, acc, h => by
    rw [numsGo] at h ⊢
    split at h
    · rename_i e
      rw [if_pos e, numsGo_len0 r _ h]
      simp
      omega
    · rename_i e
      exact absurd h e
theorem arc_f (n : Int) (a : S37) : ∃ k, netfmt_arc.f k n a.f0 a.f1 a.f2 a.f3 = some (arcF n a) := by
  refine ⟨1, ?_⟩
  unfold netfmt_arc.f arcF
  simp only [netfmt_arc.j0]
  by_cases h1 : (mn (mn (mn a.f0 a.f1) a.f2) a.f3) < 0
  · rw [if_pos h1]
    have h2 : a.f0 < 0 ∨ a.f1 < 0 ∨ a.f2 < 0 ∨ a.f3 < 0 ∨ n ≤ a.f0 ∨ n ≤ a.f1 := by
      simp only [mn] at h1
      omega
    simp [h2]
  · rw [if_neg h1]
    by_cases h3 : mx a.f0 a.f1 ≥ n
    · have h2 : a.f0 < 0 ∨ a.f1 < 0 ∨ a.f2 < 0 ∨ a.f3 < 0 ∨ n ≤ a.f0 ∨ n ≤ a.f1 := by
        simp only [mx] at h3
        omega
      simp [h2, h3]
    · have h2 : ¬ (a.f0 < 0 ∨ a.f1 < 0 ∨ a.f2 < 0 ∨ a.f3 < 0 ∨ n ≤ a.f0 ∨ n ≤ a.f1) := by
        simp only [mx, mn] at h1 h3
        omega
      rw [if_neg h2, if_neg (by simp [h3])]
      by_cases h4 : a.f2 > 1048576
      · simp [h4]
      · by_cases h5 : a.f3 > 1048576 <;> simp [h4, h5]
set_option maxHeartbeats 1000000 in
set_option maxRecDepth 100000 in
theorem tail_walk (g : Nat) (n : Int) (b : Bool) (l : List S37) (A1 : Option Addr) (c1 : Nat) (l1 : List ByteArray) (w0 w : World) (hI : NetAt w0 w g n b l) (hB : Below w0.heap.size w0 w)
    (hr1 : Kd.C Kd.string w A1 l1.length l1) (hc1 : l1.length ≤ c1) (hl : l.length ≤ 200) :
    Calls Tryd.prog 32 #[.pointer (some ⟨g, 0, none⟩), .slice A1 l1.length c1] w fun e w' => e = .returned (.int .i64 (tailF n l l1).1) ∧ NetAt w0 w' g n b (tailF n l l1).2 ∧ Below w0.heap.size w0 w' ∧ Keeps g w w' := by
  have HI := Lib.hid hI
  have HB := Lib.hid hB
  clear hI hB
  by_cases h3 : (l1.length : Int) = 5
  case neg =>
    have c4b1 : ((l1.length : Int) != 5) = true := bne_iff_ne.mpr h3
    have hF : tailF n l l1 = (50, l) := by simp [tailF, h3]
    rw [hF]
    clear hF
    go_enter Tryd.func32, Tryd.ntmps32
    go_wp2
    go_ret
    exact ⟨rfl, HI, HB, Keeps.refl _ _⟩
  have p0 : 0 ≤ (0 : Int) := by omega
  obtain ⟨ad, rfl, x0⟩ := Kd.at_string hr1 0 p0 (by omega)
  rw [show ((0 : Int)).toNat = 0 from rfl, Addr.add_zero'] at x0
  have hlen : l1.length = 5 := by omega
  have c4b0 : ((l1.length : Int) == 5) = true := beq_iff_eq.mpr h3
  have c4b1 : ((l1.length : Int) != 5) = false := bne_eq_false_iff_eq.mpr h3
  have q0 : (0 < l1.length) = True := eq_true (by omega)
  have Q0 : (0 < (l1.length : Int)) = True := eq_true (by omega)
  by_cases h0 : (rdOf ByteArray.empty l1 0).toList = ([97, 114, 99] : List UInt8)
  case neg =>
    have h0b : ((rdOf ByteArray.empty l1 0).toList != ([97, 114, 99] : List UInt8)) = true := bne_iff_ne.mpr h0
    have h0c : ((rdOf ByteArray.empty l1 0).toList == ([97, 114, 99] : List UInt8)) = false := beq_eq_false_iff_ne.mpr h0
    have hF : tailF n l l1 = (50, l) := by simp [tailF, h0]
    rw [hF]
    clear hF
    go_enter Tryd.func32, Tryd.ntmps32
    go_wp2
    go_ret
    exact ⟨rfl, HI, HB, Keeps.refl _ _⟩
  have h0b : ((rdOf ByteArray.empty l1 0).toList != ([97, 114, 99] : List UInt8)) = false := bne_eq_false_iff_eq.mpr h0
  have h0c : ((rdOf ByteArray.empty l1 0).toList == ([97, 114, 99] : List UInt8)) = true := beq_iff_eq.mpr h0
  have hc1' : ¬ c1 = 1 := by omega
  have hc2 : (c1 < 1) = False := eq_false (by omega)
  have hc3 : (l1.length < 1) = False := eq_false (by omega)
  have hc4 : (1 ≤ l1.length) = True := eq_true (by omega)
  have hc5 : (1 ≤ c1) = True := eq_true (by omega)
  have hF0 : tailF n l l1 = if (numsGo (l1.drop 1) []).2 = 0 then
      if arcF n (arcOf (numsGo (l1.drop 1) []).1) = 0 then (if l.length = 200 then (2, l) else (0, l ++ [arcOf (numsGo (l1.drop 1) []).1]))
      else (arcF n (arcOf (numsGo (l1.drop 1) []).1), l)
    else ((numsGo (l1.drop 1) []).2, l) := by simp [tailF, h3, h0]
  rw [hF0]
  clear hF0
  have hnums : Calls Tryd.prog 46 #[.slice (some ⟨ad.block, ad.off + 1, none⟩) 4 (c1 - 1)] w fun e w' => ∃ v : Value, e = .returned (.tuple #[v, .int .i64 (numsGo (l1.drop 1) []).2]) ∧ Kd.R (Kd.int .i64) 3 w' w.heap.size (fun _ => True) v (numsGo (l1.drop 1) []).1 ∧ Below w.heap.size w w' := by
    obtain ⟨k, hk⟩ := nums_ev (l1.drop 1) (by rw [List.length_drop]; omega)
    have hcd := Kd.C_drop (m := 1) hr1 (by omega) hc1
    rw [if_neg hc1'] at hcd
    have e4 : (l1.drop 1).length = 4 := by rw [List.length_drop]; omega
    have h := word_Numbers.calls k _ (c1 - 1) _ _ _ w hcd (by omega) hk
    rw [e4] at h
    simpa [Go.Addr.add, Kd.string, Kd.scalar] using h
  have hnl : (numsGo (l1.drop 1) []).2 = 0 → (numsGo (l1.drop 1) []).1.length = 4 := fun h => by
    have := numsGo_len0 (l1.drop 1) [] h
    rw [List.length_drop, List.length_nil] at this
    omega
  clear h0 hr1
  generalize numsGo (l1.drop 1) [] = R at hnums hnl
  obtain ⟨xs, er⟩ := R
  dsimp only at hnums hnl ⊢
  replace hnums := Lib.hid hnums
  have harc : ∀ W : World, Calls Tryd.prog 27 #[.int .i64 n, .agg #[.int .i64 (rd xs 0), .int .i64 (rd xs 1), .int .i64 (rd xs 2), .int .i64 (rd xs 3)]] W fun e w' => e = .returned (.int .i64 (arcF n (arcOf xs))) ∧ Below W.heap.size W w' := fun W => by
    obtain ⟨k, hk⟩ := arc_f n (arcOf xs)
    exact netfmt_arc.calls k _ _ _ _ _ _ W hk
  replace harc := Lib.hid harc
  have fin : ∀ W : World, Below w.heap.size w W → NetAt w0 W g n b l ∧ Below w0.heap.size w0 W ∧ Keeps g w W := fun W hb => ⟨NetAt.below HI hb, below_step HB hb, Keeps.below g hb⟩
  by_cases her : er = 0
  case neg =>
    have e1 : (er == 0) = false := beq_eq_false_iff_ne.mpr her
    have e2 : (er != 0) = true := bne_iff_ne.mpr her
    simp only [her, ↓reduceIte]
    clear hnl her
    go_enter Tryd.func32, Tryd.ntmps32
    go_wp2_with (first | (go_at_call 46; refine hnums.out.mono ?_; rintro e w1 ⟨v, rfl, hR, hb⟩; replace hR := Lib.hid hR))
    go_ret
    exact ⟨rfl, fin _ hb⟩
  have e1 : (er == 0) = true := beq_iff_eq.mpr her
  have e2 : (er != 0) = false := bne_eq_false_iff_eq.mpr her
  have hx4 : xs.length = 4 := hnl her
  simp only [her, ↓reduceIte]
  clear hnl
  go_enter Tryd.func32, Tryd.ntmps32
  go_wp2_with ((go_at_call 46; refine hnums.out.mono ?_; rintro e w1 ⟨v, rfl, hR, hb⟩; obtain ⟨A, cA, rfl, hcA, hC⟩ := Kd.R_reads hR; obtain ⟨ax, rfl, y0⟩ := Kd.at_int hC 0 (by omega) (by omega); obtain ⟨ax1, e3, y1⟩ := Kd.at_int hC 1 (by omega) (by omega); obtain rfl : ax = ax1 := (by injection e3); clear e3; obtain ⟨ax1, e3, y2⟩ := Kd.at_int hC 2 (by omega) (by omega); obtain rfl : ax = ax1 := (by injection e3); clear e3; obtain ⟨ax1, e3, y3⟩ := Kd.at_int hC 3 (by omega) (by omega); obtain rfl : ax = ax1 := (by injection e3); clear e3; rw [show ((0 : Int)).toNat = 0 from rfl, Addr.add_zero'] at y0; simp only [show (1 : Int).toNat = 1 from rfl, Nat.reduceEqDiff, Go.Addr.add, ↓reduceIte] at y1; simp only [show (2 : Int).toNat = 2 from rfl, Nat.reduceEqDiff, Go.Addr.add, ↓reduceIte] at y2; simp only [show (3 : Int).toNat = 3 from rfl, Nat.reduceEqDiff, Go.Addr.add, ↓reduceIte] at y3; replace hR := Lib.hid hR; replace hC := Lib.hid hC))
  have m0 := World.new_ne w1 _ y0
  have m1 := World.new_ne w1 _ y1
  have m2 := World.new_ne w1 _ y2
  have m3 := World.new_ne w1 _ y3
  go_region_held3 (fun w' => w'.cell? ax = some (.int .i64 (rd xs 0)) ∧ w'.cell? ⟨ax.block, ax.off + 1, none⟩ = some (.int .i64 (rd xs 1)) ∧ w'.cell? ⟨ax.block, ax.off + 2, none⟩ = some (.int .i64 (rd xs 2)) ∧ w'.cell? ⟨ax.block, ax.off + 3, none⟩ = some (.int .i64 (rd xs 3))) (go_keep) (fail)
  all_goals go_wp2
  have hbW : Below w.heap.size w (w1.alloc (.cells #[.int .i64 (rd xs 0), .int .i64 (rd xs 1), .int .i64 (rd xs 2), .int .i64 (rd xs 3)] 37)).drew := below_drew (below_alloc hb _)
  have hab : (w1.alloc (.cells #[.int .i64 (rd xs 0), .int .i64 (rd xs 1), .int .i64 (rd xs 2), .int .i64 (rd xs 3)] 37)).drew.heap[w1.heap.size]? = some (.cells #[.int .i64 (rd xs 0), .int .i64 (rd xs 1), .int .i64 (rd xs 2), .int .i64 (rd xs 3)] 37 (0, 0)) := heap_alloc_new w1 _
  generalize (w1.alloc (.cells #[.int .i64 (rd xs 0), .int .i64 (rd xs 1), .int .i64 (rd xs 2), .int .i64 (rd xs 3)] 37)).drew = W at hbW hab ⊢
  generalize w1.heap.size = a at hab ⊢
  have HIW := (fin W hbW).1
  have hga : g ≠ a := by
    rintro rfl
    obtain ⟨v, hgb, _, _⟩ := HIW
    rw [hgb] at hab
    simp at hab
  obtain ⟨v, hgb, hge, hRl⟩ := HIW
  obtain ⟨Al, cl, rfl⟩ := Kd.R_slice hRl
  have g0 := (blk_cell hgb 0).trans rfl
  have g2 := (blk_cell hgb 2).trans rfl
  have a0 := (blk_cell hab 0).trans rfl
  have a1 := (blk_cell hab 1).trans rfl
  have a2 := (blk_cell hab 2).trans rfl
  have a3 := (blk_cell hab 3).trans rfl
  go_region_held3 (fun w' => w'.cell? ⟨g, 0, none⟩ = some (.int .i64 n) ∧ w'.cell? ⟨a, 0, none⟩ = some (.int .i64 (rd xs 0)) ∧ w'.cell? ⟨a, 1, none⟩ = some (.int .i64 (rd xs 1)) ∧ w'.cell? ⟨a, 2, none⟩ = some (.int .i64 (rd xs 2)) ∧ w'.cell? ⟨a, 3, none⟩ = some (.int .i64 (rd xs 3))) (first | go_keep | (refine (fun (h : _ ∧ _ ∧ _ ∧ _ ∧ _) => ⟨pw_cell_below hb2 h.1, pw_cell_below hb2 h.2.1, pw_cell_below hb2 h.2.2.1, pw_cell_below hb2 h.2.2.2.1, pw_cell_below hb2 h.2.2.2.2⟩) ?_; assumption)) ((go_at_call 27; refine (harc.out _).mono ?_; rintro e w2 ⟨rfl, hb2⟩))
  have hb2' : Below W.heap.size W w2 := below_step (below_drew (Below.refl _ _)) hb2
  replace hb2 : Below w.heap.size w w2 := below_step (below_drew hbW) hb2
  replace hab : w2.heap[a]? = some (.cells #[.int .i64 (rd xs 0), .int .i64 (rd xs 1), .int .i64 (rd xs 2), .int .i64 (rd xs 3)] 37 (0, 0)) := (hb2'.block a (by simpa using blk_lt hab)).trans hab
  clear hb2' hgb hge hRl g0 g2 a0 a1 a2 a3 hbW
  obtain ⟨v, hgb, hge, hRl⟩ := (fin w2 hb2).1
  obtain ⟨Al, cl, rfl⟩ := Kd.R_slice hRl
  have g2 := (blk_cell hgb 2).trans rfl
  have f2 := blk_frozen hgb 2
  have a0 := (blk_cell hab 0).trans rfl
  have a1 := (blk_cell hab 1).trans rfl
  have a2 := (blk_cell hab 2).trans rfl
  have a3 := (blk_cell hab 3).trans rfl
  have hN : NetAt w0 w2 g n b l ∧ Below w0.heap.size w0 w2 ∧ Keeps g w w2 := fin w2 hb2
  replace hN := Lib.hid hN
  by_cases hA : arcF n (arcOf xs) = 0
  case neg =>
    have b1 : (arcF n (arcOf xs) == 0) = false := beq_eq_false_iff_ne.mpr hA
    have b2 : (arcF n (arcOf xs) != 0) = true := bne_iff_ne.mpr hA
    go_wp2
    go_ret
    exact ⟨rfl, hN⟩
  have b1 : (arcF n (arcOf xs) == 0) = true := beq_iff_eq.mpr hA
  have b2 : (arcF n (arcOf xs) != 0) = false := bne_eq_false_iff_eq.mpr hA
  by_cases hM : l.length = 200
  case pos =>
    have b3 : ((l.length : Int) == 200) = true := beq_iff_eq.mpr (by omega)
    have b4 : ((l.length : Int) != 200) = false := bne_eq_false_iff_eq.mpr (by omega)
    go_wp2
    go_ret
    exact ⟨rfl, hN⟩
  have b3 : ((l.length : Int) == 200) = false := beq_eq_false_iff_ne.mpr (by omega)
  have b4 : ((l.length : Int) != 200) = true := bne_iff_ne.mpr (by omega)
  go_wp2
  have hNl := hN.out
  clear hN
  obtain ⟨_, inner, hown, hreps⟩ := hRl
  have hgne : some g ≠ (Value.slice Al l.length cl).ownBlock := Kd.R_ne (⟨fun _ _ => trivial, inner, hown, hreps⟩ : Kd.R k37 37 w2 w0.heap.size (fun _ => True) (.slice Al l.length cl) l) hgb (by decide)
  have fin3 : ∀ X w3 : World, Below w2.heap.size w2 X → ∀ g' cap', w3.ownsRow w0.heap.size 37 4 (.slice (some ⟨g', 0, none⟩) (l.length + 1) cap') (l.length + 1) (inner ++ [.int .i64 (rd xs 0), .int .i64 (rd xs 1), .int .i64 (rd xs 2), .int .i64 (rd xs 3)]) →
      X.grownBy w3 (Value.slice Al l.length cl).ownBlock → ((Value.slice Al l.length cl).ownBlock = some g' ∨ g' = X.heap.size) → w3.cell? ⟨g, 2, none⟩ = some (.slice Al l.length cl) ∧ w3.frozen? ⟨g, 2, none⟩ = false ∧
      NetAt w0 (w3.setCell ⟨g, 2, none⟩ (.slice (some ⟨g', 0, none⟩) (l.length + 1) cap')) g n b (l ++ [arcOf xs]) ∧ Below w0.heap.size w0 (w3.setCell ⟨g, 2, none⟩ (.slice (some ⟨g', 0, none⟩) (l.length + 1) cap')) ∧ Keeps g w (w3.setCell ⟨g, 2, none⟩ (.slice (some ⟨g', 0, none⟩) (l.length + 1) cap')) := by
    intro X w3 hX g' cap' hown3 hgrow hat
    have hgX : X.heap[g]? = w2.heap[g]? := hX.block g (blk_lt hgb)
    have hg3 : w3.heap[g]? = some (.cells #[.int .i64 n, .bool b, .slice Al l.length cl] 24 (0, 0)) := (hgrow.block g (by have := blk_lt hgb; have := hX.size; omega) (fun e => hgne e)).trans (hgX.trans hgb)
    have hR3 : Kd.R k37 37 w3 w0.heap.size (fun _ => True) (.slice (some ⟨g', 0, none⟩) (l.length + 1) cap') (l ++ [arcOf xs]) :=
      Kd.R_appended (W := X) (v := .slice Al l.length cl) (okp := fun _ => False) (inner := inner) (fun _ _ => trivial) (hreps.imp_ (fun x cs hp => by rw [k37_openM hp]; exact k37_mkM _ _ _ _)) (k37_mkM _ _ _ (arcOf xs)) (fun _ h => h.elim) (fun _ _ => trivial) hown3 hgrow
        (hat.elim (fun h => .inl (by rw [h]; rfl)) (fun h => .inr ⟨g', rfl, Nat.le_of_eq h.symm⟩))
    have hB3 : Below w0.heap.size w0 w3 := pw_below_grown (below_step hNl.2.1 hX) _ (by have := hNl.2.1.size; have := hX.size; omega) hgrow (own_base hown)
    have b3 := blk_set hg3 2 (.slice (some ⟨g', 0, none⟩) (l.length + 1) cap')
    exact ⟨(blk_cell hg3 2).trans rfl, blk_frozen hg3 2, ⟨_, by simpa using b3, hge, Kd.R_set hR3 hg3 (by decide) 2 _⟩, below_set hB3 hge, hNl.2.2.trans ((Keeps.below g hX).trans ((Keeps.grown (pw_own_below hown hX) hgrow).trans (Keeps.set g w3 2 _)))⟩
  replace fin3 := Lib.hid fin3
  have hinfo : (Tryd.prog.info? 37).map (fun i => (i.zero, i.size, i.bytes)) = some (some (.agg #[.int .i64 0, .int .i64 0, .int .i64 0, .int .i64 0]), 4, 32) := by kernel_rfl
  obtain ⟨ia, hi, hh⟩ := Option.map_eq_some_iff.1 hinfo
  obtain ⟨hz, hsz, hby⟩ : ia.zero = some (.agg #[.int .i64 0, .int .i64 0, .int .i64 0, .int .i64 0]) ∧ ia.size = 4 ∧ ia.bytes = 32 := by simpa using hh
  have n0 := World.new_ne w2 _ g2
  have n1 := World.new_ne w2 _ a0
  have hbase2 : w0.heap.size ≤ w2.heap.size := hNl.2.1.size
  have g2a : (w2.alloc (.cells #[.int .i64 (rd xs 0), .int .i64 (rd xs 1), .int .i64 (rd xs 2), .int .i64 (rd xs 3)] 37)).cell? ⟨g, 2, none⟩ = some (.slice Al l.length cl) := (World.cell?_alloc_lt _ _ _ (World.block_lt_of_cell? w2 ⟨g, 2, none⟩ g2)).trans g2
  go_region_law ((refine step_append_lies _ (by rfl) _ _ _ (by rfl) w0.heap.size 37 ia (.agg #[.int .i64 0, .int .i64 0, .int .i64 0, .int .i64 0]) 4 32 Tryd.underlying22 hi hz hsz hby rfl (by decide) (.slice Al l.length cl) l.length inner (by rfl) (pw_own_below hown (by repeat (first | exact Below.refl _ _ | apply below_drew | apply below_alloc))) ⟨w2.heap.size, 0, none⟩ 1 1 [.int .i64 (rd xs 0), .int .i64 (rd xs 1), .int .i64 (rd xs 2), .int .i64 (rd xs 3)] (by rfl) (by rfl) (World.news_of_block (heap_alloc_new w2 _)) (by simp [Value.oneCell']) (by decide) (by unfold maxLen; omega) (by omega) (by simp; omega) (w2.heap.size + 1) (by simp) ?_; intro g' cap' w3 hown3 hgrow hat hlt; obtain ⟨hc3, hf3, hN3⟩ := fin3.out _ _ (by repeat (first | exact Below.refl _ _ | apply below_drew | apply below_alloc)) g' cap' hown3 hgrow (by simpa using hat); replace hN3 := Lib.hid hN3))
  all_goals go_wp2
  all_goals go_ret
  all_goals exact ⟨rfl, hN3⟩
end Go.Proofs.YthalacoockoomaaDoor.H

/- netfmt.Parse: the network of a text. -/
namespace Go.Proofs.YthalacoockoomaaDoor.H
open Go Go.RowKit Go.Proofs.YthalacoockoomaaDoor.Print Go.Proofs.YthalacoockoomaaDoorW.PrintWords Go.Proofs.YthalacoockoomaaDoorW.PrintLast

def idleW (ws : List ByteArray) : Bool := (ws.length : Int) == 0 || bt (rdOf ByteArray.empty ws 0) 0 == 35
/-- What a line that says something makes of a network: the error, and the network. -/
def lineF (begun : Bool) (n : Int) (b : Bool) (l : List S37) (ws : List ByteArray) : Int × Int × Bool × List S37 :=
  if begun = true then ((tailF n l ws).1, n, b, (tailF n l ws).2) else ((headF n b ws).1, (headF n b ws).2.1, (headF n b ws).2.2, l)
def parseGo : List ByteArray → Nat → Bool → Int → Bool → List S37 → Int × Bool × List S37 × Int × Int
  | [], _, begun, n, b, l => if begun = true then (n, b, l, 0, 0) else (0, false, [], 0, 50)
  | t :: r, i, begun, n, b, l =>
    if idleW (wordsB t) = true then parseGo r (i + 1) begun n b l
    else if (lineF begun n b l (wordsB t)).1 = 0 then parseGo r (i + 1) true (lineF begun n b l (wordsB t)).2.1 (lineF begun n b l (wordsB t)).2.2.1 (lineF begun n b l (wordsB t)).2.2.2
    else (0, false, [], ((i + 1 : Nat) : Int), (lineF begun n b l (wordsB t)).1)
def parseF (s : ByteArray) : Int × Bool × List S37 × Int × Int := parseGo (linesB s) 0 false 0 false []
def netfmt_Parse.f (a0 : ByteArray) : Option (Int × Bool × List S37 × Int × Int) := if a0.size ≤ 4294967280 then some (parseF a0) else none

theorem tailF_len (n : Int) (l : List S37) (ws : List ByteArray) (h : l.length ≤ 200) : (tailF n l ws).2.length ≤ 200 := by
  unfold tailF
  split
  · split
    · split
      · split
        · exact h
        · rw [List.length_append]; simp; omega
      · exact h
    · exact h
  · exact h
theorem lineF_len (begun : Bool) (n : Int) (b : Bool) (l : List S37) (ws : List ByteArray) (h : l.length ≤ 200) : (lineF begun n b l ws).2.2.2.length ≤ 200 := by
  unfold lineF
  split
  · exact tailF_len n l ws h
  · exact h

theorem word_pos {s : ByteArray} {p : ByteArray} (h : p ∈ wordsB s) : 0 < p.size := by
  unfold wordsB at h
  have := (List.mem_filter.1 h).2
  rcases Nat.eq_zero_or_pos p.size with e | e
  · exfalso
    have e2 : p.toList = [] := by
      rw [ByteArray.toList_eq]
      exact List.length_eq_zero_iff.1 (by simpa using e)
    simp [e2] at this
  · exact e
theorem splitL_le (c : UInt8) : ∀ (l p : List UInt8), p ∈ splitL c l → p.length ≤ l.length
  | [], p, h => by
    rw [splitL, List.mem_singleton] at h
    simp [h]
  | x :: l, p, h => by
    rw [splitL] at h
    split at h
    · rcases List.mem_cons.1 h with e | e
      · simp [e]
      · have := splitL_le c l p e
        simp
        omega
    · split at h
      · rename_i e
        exact absurd e (splitL_ne c l)
      · rename_i q qs e
        have hq := splitL_le c l
        rw [e] at hq
        rcases List.mem_cons.1 h with e2 | e2
        · have := hq q (by simp)
          rw [e2]
          simp
          omega
        · have := hq p (by simp [e2])
          simp
          omega
theorem line_le {s p : ByteArray} (h : p ∈ linesB s) : p.size ≤ s.size := by
  unfold linesB at h
  split at h
  · cases h
  · have h1 := cutEnd_size s
    have h2 : p.size ≤ (cutEnd s).size := by
      unfold piecesB at h
      obtain ⟨q, hq, rfl⟩ := List.mem_map.1 h
      have := splitL_le 10 _ q hq
      have e1 : (mkB q).size = q.length := by simp [mkB, ByteArray.size]
      have e2 : (cutEnd s).data.toList.length = (cutEnd s).size := by simp
      omega
    omega

theorem net_zero {w0 W : World} {g : Nat} {n : Int} {b : Bool} {l : List S37} (hN : NetAt w0 W g n b l) (hB : Below w0.heap.size w0 W) (u0 u1 u2 : Value) :
    Below w0.heap.size w0 (((W.setCell ⟨g, 0, none⟩ u0).setCell ⟨g, 1, none⟩ u1).setCell ⟨g, 2, none⟩ u2) ∧ (((W.setCell ⟨g, 0, none⟩ u0).setCell ⟨g, 1, none⟩ u1).setCell ⟨g, 2, none⟩ u2).cell? ⟨g, 0, none⟩ = some u0 ∧
    (((W.setCell ⟨g, 0, none⟩ u0).setCell ⟨g, 1, none⟩ u1).setCell ⟨g, 2, none⟩ u2).cell? ⟨g, 1, none⟩ = some u1 ∧ (((W.setCell ⟨g, 0, none⟩ u0).setCell ⟨g, 1, none⟩ u1).setCell ⟨g, 2, none⟩ u2).cell? ⟨g, 2, none⟩ = some u2 := by
  obtain ⟨v, hgb, hge, _⟩ := hN
  have b1 := blk_set hgb 0 u0
  have b2 := blk_set b1 1 u1
  exact ⟨below_set (below_set (below_set hB hge) hge) hge, (blk_cell (blk_set b2 2 u2) 0).trans rfl, (blk_cell (blk_set b2 2 u2) 1).trans rfl, (blk_cell (blk_set b2 2 u2) 2).trans rfl⟩

/-- One line's words taken up: head or tail. -/
theorem line_call (begun : Bool) (g : Nat) (n : Int) (b : Bool) (l : List S37) (A1 : Option Addr) (c1 : Nat) (ws : List ByteArray) (w0 w : World) (hI : NetAt w0 w g n b l) (hB : Below w0.heap.size w0 w)
    (hr1 : Kd.C Kd.string w A1 ws.length ws) (hc1 : ws.length ≤ c1) (hl : l.length ≤ 200) (hne : ∀ ad, A1 = some ad → 0 < ws.length → ad.block ≠ g) :
    Calls Tryd.prog (if begun = true then 32 else 33) #[.pointer (some ⟨g, 0, none⟩), .slice A1 ws.length c1] w fun e w' => e = .returned (.int .i64 (lineF begun n b l ws).1) ∧ NetAt w0 w' g (lineF begun n b l ws).2.1 (lineF begun n b l ws).2.2.1 (lineF begun n b l ws).2.2.2 ∧ Below w0.heap.size w0 w' ∧ Keeps g w w' := by
  cases begun
  · rw [if_neg (by decide)]
    exact head_walk g n b l A1 c1 ws w0 w hI hB hr1 hne
  · rw [if_pos rfl]
    exact tail_walk g n b l A1 c1 ws w0 w hI hB hr1 hc1 hl

set_option maxHeartbeats 1000000 in
set_option maxRecDepth 100000 in
theorem parse_walk (a0 : ByteArray) (w : World) (hT : TabW w) (hs : a0.size ≤ 4294967280) :
    Calls Tryd.prog 15 #[.string a0] w fun e w' => ∃ v : Value, e = .returned (.tuple #[.agg #[.int .i64 (parseF a0).1, .bool (parseF a0).2.1, v], .int .i64 (parseF a0).2.2.2.1, .int .i64 (parseF a0).2.2.2.2]) ∧ Kd.R k37 37 w' w.heap.size (fun _ => True) v (parseF a0).2.2.1 ∧ Below w.heap.size w w' := by
  obtain ⟨g, hg⟩ : ∃ g, w.heap.size = g := ⟨_, rfl⟩
  have hB0 : Below w.heap.size w (w.alloc (.cells #[.int .i64 0, .bool false, .slice none 0 0] 24)) := below_alloc (Below.refl _ _) _
  have hN0 : NetAt w (w.alloc (.cells #[.int .i64 0, .bool false, .slice none 0 0] 24)) g 0 false [] := ⟨.slice none 0 0, by rw [← hg]; exact heap_alloc_new w _, by omega, Kd.R_nil _ _ _ _ _⟩
  have hlin : Calls Tryd.prog 30 #[.string a0] (w.alloc (.cells #[.int .i64 0, .bool false, .slice none 0 0] 24)) fun e w1 => ∃ v : Value, e = .returned v ∧ Kd.R Kd.string 9 w1 w.heap.size (fun _ => True) v (linesB a0) ∧ NetAt w w1 g 0 false [] ∧ Below w.heap.size w w1 := by
    refine (word_Lines.calls a0 (linesB a0) _ (hT.below hB0) (by unfold word_Lines.f; rw [if_pos hs])).mono ?_
    rintro e w1 ⟨v, rfl, hR, hb⟩
    exact ⟨v, rfl, Kd.R_lower hR (by simp), hN0.below hb, below_step hB0 hb⟩
  have HL := Lib.hid hlin
  have HT := Lib.hid hT
  have HG := Lib.hid hg
  have hll : (linesB a0).length ≤ 4294967281 := by
    unfold linesB
    split
    · simp
    · have := piecesB_length 10 (cutEnd a0)
      have := cutEnd_size a0
      omega
  have hls : ∀ p ∈ linesB a0, p.size ≤ 4294967280 := fun p hp => Nat.le_trans (line_le hp) hs
  have HLS := Lib.hid hls
  generalize hP : parseF a0 = R
  obtain ⟨r1, r2, r3, r4, r5⟩ := R
  unfold parseF at hP
  dsimp only
  have HP := Lib.hid hP
  have hw1 : ∀ i : Nat, i < 4294967290 → wrap64 ((i : Int) + 1) = ((i + 1 : Nat) : Int) := fun i hi => w1n i (by omega)
  replace hw1 := Lib.hid hw1
  clear hlin hN0 hB0 hP hls hT hg
  generalize linesB a0 = X at HL HLS HP hll
  go_enter Tryd.func15, Tryd.ntmps15
  go_wp2_with (go_at_call 30; refine HL.out.mono ?_; rintro e w1 ⟨v, rfl, hR, hN, hb⟩; obtain ⟨A, cA, rfl, hcA, hC⟩ := Kd.R_reads hR; replace hR := Lib.hid hR; replace hN := Lib.hid hN; replace hC := Lib.hid hC)
  rw [HG.out]
  go_loopw [4, 5, 12] (fun v4 v5 v12 wr => ∃ (i : Nat) (begun : Bool) (n : Int) (b : Bool) (l : List S37), v12 = .int .i64 i ∧ v4 = .int .i64 0 ∧ v5 = .bool begun ∧ i ≤ X.length ∧ l.length ≤ 200 ∧ NetAt w wr g n b l ∧ Below w.heap.size w wr ∧ Keeps g w1 wr ∧ parseGo (X.drop i) i begun n b l = (r1, r2, r3, r4, r5)) (fun _ _ v12 _ => X.length - (intOf v12).toNat)
  case atStart => exact ⟨0, false, 0, false, [], rfl, rfl, rfl, Nat.zero_le _, by simp, hN.out, hb, Keeps.refl _ _, HP.out⟩
  case round =>
    obtain ⟨i, begun, n, b, l, rfl, rfl, rfl, hi, hl, hN', hB', hK', hgo⟩ := hrel
    have HN := Lib.hid hN'
    have HB := Lib.hid hB'
    have HK := Lib.hid hK'
    have HGo := Lib.hid hgo
    clear hK' hgo
    obtain ⟨vl, hgb, hge, hRl⟩ := hN'
    obtain ⟨Al, cl, rfl⟩ := Kd.R_slice hRl
    by_cases hlt : i < X.length
    case neg =>
      have hlt' : decide ((i : Int) < (X.length : Int)) = false := decide_eq_false (by omega)
      have hz := HGo.out
      rw [List.drop_eq_nil_of_le (by omega), parseGo] at hz
      have c0 := (blk_cell hgb 0).trans rfl
      have c1 := (blk_cell hgb 1).trans rfl
      have c2 := (blk_cell hgb 2).trans rfl
      have f0 := blk_frozen hgb 0
      have f1 := blk_frozen hgb 1
      have f2 := blk_frozen hgb 2
      have fin : ∀ u0 u1 u2, Below w.heap.size w (((wr.setCell ⟨g, 0, none⟩ u0).setCell ⟨g, 1, none⟩ u1).setCell ⟨g, 2, none⟩ u2) ∧ Kd.R k37 37 (((wr.setCell ⟨g, 0, none⟩ u0).setCell ⟨g, 1, none⟩ u1).setCell ⟨g, 2, none⟩ u2) w.heap.size (fun _ => True) (.slice Al l.length cl) l ∧
          (((wr.setCell ⟨g, 0, none⟩ u0).setCell ⟨g, 1, none⟩ u1).setCell ⟨g, 2, none⟩ u2).cell? ⟨g, 0, none⟩ = some u0 ∧ (((wr.setCell ⟨g, 0, none⟩ u0).setCell ⟨g, 1, none⟩ u1).setCell ⟨g, 2, none⟩ u2).cell? ⟨g, 1, none⟩ = some u1 ∧ (((wr.setCell ⟨g, 0, none⟩ u0).setCell ⟨g, 1, none⟩ u1).setCell ⟨g, 2, none⟩ u2).cell? ⟨g, 2, none⟩ = some u2 := fun u0 u1 u2 => by
        have b1 := blk_set hgb 0 u0
        have b2 := blk_set b1 1 u1
        exact ⟨below_set (below_set (below_set hB' hge) hge) hge, Kd.R_set (Kd.R_set (Kd.R_set hRl hgb (by decide) 0 _) b1 (by decide) 1 _) b2 (by decide) 2 _, (blk_cell (blk_set b2 2 u2) 0).trans rfl, (blk_cell (blk_set b2 2 u2) 1).trans rfl, (blk_cell (blk_set b2 2 u2) 2).trans rfl⟩
      replace fin := Lib.hid fin
      clear hgb hRl hge hB'
      cases begun
      · obtain ⟨rfl, rfl, rfl, rfl, rfl⟩ : 0 = r1 ∧ false = r2 ∧ [] = r3 ∧ 0 = r4 ∧ 50 = r5 := by simpa using hz
        clear hz
        go_wp2
        (try simp only [Exit.inBlock, Exit.then])
        obtain ⟨z1, z2, z3, z4, z5⟩ := fin.out (.int .i64 0) (.bool false) (.slice none 0 0)
        refine bodyPost_ret (v := .tuple #[.agg #[.int .i64 0, .bool false, .slice none 0 0], .int .i64 0, .int .i64 50]) (by simp [results, Tryd.results15, go_sem, z3, z4, z5]) rfl ?_
        exact ⟨_, rfl, Kd.R_nil _ _ _ _ _, z1⟩
      · obtain ⟨rfl, rfl, rfl, rfl, rfl⟩ : n = r1 ∧ b = r2 ∧ l = r3 ∧ 0 = r4 ∧ 0 = r5 := by simpa using hz
        clear hz
        go_wp2
        (try simp only [Exit.inBlock, Exit.then])
        obtain ⟨z1, z2, z3, z4, z5⟩ := fin.out (.int .i64 n) (.bool b) (.slice Al l.length cl)
        refine bodyPost_ret (v := .tuple #[.agg #[.int .i64 n, .bool b, .slice Al l.length cl], .int .i64 0, .int .i64 0]) (by simp [results, Tryd.results15, go_sem, z3, z4, z5]) rfl ?_
        exact ⟨_, rfl, z2, z1⟩
    case pos =>
      have hlt' : decide ((i : Int) < (X.length : Int)) = true := decide_eq_true (by omega)
      have hz := HGo.out
      rw [List.drop_eq_getElem_cons hlt, parseGo] at hz
      have hXi : rdOf ByteArray.empty X (i : Int) = X[i] := by simp [rdOf, hlt]
      have hsz := HLS.out _ (List.getElem_mem hlt)
      obtain ⟨cs1, hg1⟩ : ∃ cs, w1.heap[g]? = some (.cells cs 24 (0, 0)) := by
        obtain ⟨v1, h1, _⟩ := hN.out
        exact ⟨_, h1⟩
      have hRr := row_kept hR.out HK.out hg1
      obtain ⟨A', c', e1, _, hCr⟩ := Kd.R_reads hRr
      injection e1 with e1 _ e2
      subst e1 e2
      obtain ⟨ad, rfl, x0⟩ := Kd.at_string hCr (i : Int) (by omega) (by omega)
      rw [hXi, Int.toNat_natCast] at x0
      generalize X[i] = s at hz hsz x0
      have hws : ∀ p ∈ wordsB s, 0 < p.size := fun p hp => word_pos hp
      have hwd : Calls Tryd.prog 31 #[.string s] wr fun e w2 => ∃ v, e = .returned v ∧ Kd.R Kd.string 9 w2 wr.heap.size (fun _ => True) v (wordsB s) ∧ Below wr.heap.size wr w2 := word_Words.calls s _ wr (by unfold word_Words.f; rw [if_pos (by omega)])
      have hgw : g < wr.heap.size := blk_lt hgb
      generalize wordsB s = ws at hz hws hwd
      replace hz := Lib.hid hz
      replace hws := Lib.hid hws
      replace hwd := Lib.hid hwd
      clear hgb hRl hge hB' hRr hCr hXi
      by_cases h0 : ws.length = 0
      case pos =>
        have d1 : ((ws.length : Int) == 0) = true := beq_iff_eq.mpr (by omega)
        have d2 : ((ws.length : Int) != 0) = false := bne_eq_false_iff_eq.mpr (by omega)
        have hid : idleW ws = true := by unfold idleW; rw [d1]; rfl
        have hz2 := hz.out
        rw [if_pos hid] at hz2
        replace hz2 := Lib.hid hz2
        clear hz hid
        go_wp2_with (go_at_call 31; refine hwd.out.mono ?_; rintro e w2 ⟨vw, rfl, hRw, hb2⟩; obtain ⟨Aw, cw, rfl, hcw, hCw⟩ := Kd.R_reads hRw; replace hRw := Lib.hid hRw; replace hCw := Lib.hid hCw)
        go_roundw
        case rel => exact ⟨i + 1, begun, n, b, l, by go_num, rfl, rfl, by omega, hl, HN.out.below hb2, below_step HB.out hb2, Keeps.trans HK.out (Keeps.below g hb2), hz2.out⟩
        case measure => simp [intOf]; omega
      case neg =>
        have d1 : ((ws.length : Int) == 0) = false := beq_eq_false_iff_ne.mpr (by omega)
        have d2 : ((ws.length : Int) != 0) = true := bne_iff_ne.mpr (by omega)
        have d3 : (0 < ws.length) = True := eq_true (by omega)
        have d4 : (0 < (ws.length : Int)) = True := eq_true (by omega)
        have h00 : rdOf ByteArray.empty ws 0 ∈ ws := by
          have : rdOf ByteArray.empty ws 0 = ws[0]'(by omega) := by simp [rdOf, show 0 < ws.length by omega]
          rw [this]
          exact List.getElem_mem _
        have hp0 := hws.out _ h00
        have d5 : (0 < (rdOf ByteArray.empty ws 0).size) = True := eq_true hp0
        have d6 : (0 < ((rdOf ByteArray.empty ws 0).size : Int)) = True := eq_true (by omega)
        have hbt : ∀ h : 0 < (rdOf ByteArray.empty ws 0).size, (((rdOf ByteArray.empty ws 0)[0]'h).toNat : Int) = bt (rdOf ByteArray.empty ws 0) 0 := bt_at (rdOf ByteArray.empty ws 0) 0
        have hidw : idleW ws = (bt (rdOf ByteArray.empty ws 0) 0 == 35) := by unfold idleW; rw [d1]; rfl
        by_cases h35 : bt (rdOf ByteArray.empty ws 0) 0 = 35
        case pos =>
          have d7 : (bt (rdOf ByteArray.empty ws 0) 0 == 35) = true := beq_iff_eq.mpr h35
          have d8 : (bt (rdOf ByteArray.empty ws 0) 0 != 35) = false := bne_eq_false_iff_eq.mpr h35
          have hz2 := hz.out
          rw [if_pos (hidw.trans d7)] at hz2
          replace hz2 := Lib.hid hz2
          clear hz hidw
          go_wp2_with (go_at_call 31; refine hwd.out.mono ?_; rintro e w2 ⟨vw, rfl, hRw, hb2⟩; obtain ⟨Aw, cw, rfl, hcw, hCw⟩ := Kd.R_reads hRw; obtain ⟨adw, rfl, xw⟩ := Kd.at_string hCw 0 (by omega) (by omega); rw [show ((0 : Int)).toNat = 0 from rfl, Addr.add_zero'] at xw; replace hRw := Lib.hid hRw; replace hCw := Lib.hid hCw)
          go_roundw
          case rel => exact ⟨i + 1, begun, n, b, l, by go_num, rfl, rfl, by omega, hl, HN.out.below hb2, below_step HB.out hb2, Keeps.trans HK.out (Keeps.below g hb2), hz2.out⟩
          case measure => simp [intOf]; omega
        case neg =>
          have d7 : (bt (rdOf ByteArray.empty ws 0) 0 == 35) = false := beq_eq_false_iff_ne.mpr h35
          have d8 : (bt (rdOf ByteArray.empty ws 0) 0 != 35) = true := bne_iff_ne.mpr h35
          have hz2 := hz.out
          rw [if_neg (by rw [hidw, d7]; decide)] at hz2
          clear hz hidw
          have hlen := lineF_len begun n b l ws hl
          have hcall : ∀ W2 : World, Below wr.heap.size wr W2 → ∀ (A2 : Option Addr) (c2 : Nat), Kd.R Kd.string 9 W2 wr.heap.size (fun _ => True) (.slice A2 ws.length c2) ws → ws.length ≤ c2 → Kd.C Kd.string W2 A2 ws.length ws →
              Calls Tryd.prog (if begun = true then 32 else 33) #[.pointer (some ⟨g, 0, none⟩), .slice A2 ws.length c2] W2 fun e w' => e = .returned (.int .i64 (lineF begun n b l ws).1) ∧ NetAt w w' g (lineF begun n b l ws).2.1 (lineF begun n b l ws).2.2.1 (lineF begun n b l ws).2.2.2 ∧ Below w.heap.size w w' ∧ Keeps g w1 w' := fun W2 hb2 A2 c2 hR2 hc2 hC2 =>
            (line_call begun g n b l A2 c2 ws w W2 (HN.out.below hb2) (below_step HB.out hb2) hC2 hc2 hl (by
              rintro ad rfl _ rfl
              have := Kd.R_base hR2 ad.block (by simp [Value.ownBlock])
              omega)).mono fun e w' ⟨h1, h2, h3, h4⟩ => ⟨h1, h2, h3, Keeps.trans HK.out (Keeps.trans (Keeps.below g hb2) h4)⟩
          generalize lineF begun n b l ws = F at hz2 hcall hlen
          obtain ⟨fe, fn, fb, fl⟩ := F
          dsimp only at hz2 hcall hlen
          replace hcall := Lib.hid hcall
          by_cases he : fe = 0
          case pos =>
            have d9 : (fe == 0) = true := beq_iff_eq.mpr he
            have d10 : (fe != 0) = false := bne_eq_false_iff_eq.mpr he
            rw [if_pos he] at hz2
            replace hz2 := Lib.hid hz2
            cases begun
            all_goals
              go_wp2_with (first
                | (go_at_call 31; refine hwd.out.mono ?_; rintro e w2 ⟨vw, rfl, hRw, hb2⟩; obtain ⟨Aw, cw, rfl, hcw, hCw⟩ := Kd.R_reads hRw; obtain ⟨adw, rfl, xw⟩ := Kd.at_string hCw 0 (by omega) (by omega); rw [show ((0 : Int)).toNat = 0 from rfl, Addr.add_zero'] at xw; replace hRw := Lib.hid hRw; replace hCw := Lib.hid hCw)
                | ((first | go_at_call 32 | go_at_call 33); refine (hcall.out w2 hb2 _ _ hRw.out hcw hCw.out).mono ?_; rintro e w3 ⟨rfl, hN3, hB3, hK3⟩))
              go_roundw
              case rel => exact ⟨i + 1, true, fn, fb, fl, by go_num, rfl, rfl, by omega, hlen, hN3, hB3, hK3, hz2.out⟩
              case measure => simp [intOf]; omega
          case neg =>
            have d9 : (fe == 0) = false := beq_eq_false_iff_ne.mpr he
            have d10 : (fe != 0) = true := bne_iff_ne.mpr he
            rw [if_neg he] at hz2
            obtain ⟨rfl, rfl, rfl, rfl, rfl⟩ : 0 = r1 ∧ false = r2 ∧ [] = r3 ∧ ((i + 1 : Nat) : Int) = r4 ∧ fe = r5 := by simpa using hz2
            clear hz2
            cases begun
            all_goals
              go_wp2_with (first
                | (go_at_call 31; refine hwd.out.mono ?_; rintro e w2 ⟨vw, rfl, hRw, hb2⟩; obtain ⟨Aw, cw, rfl, hcw, hCw⟩ := Kd.R_reads hRw; obtain ⟨adw, rfl, xw⟩ := Kd.at_string hCw 0 (by omega) (by omega); rw [show ((0 : Int)).toNat = 0 from rfl, Addr.add_zero'] at xw; replace hRw := Lib.hid hRw; replace hCw := Lib.hid hCw)
                | ((first | go_at_call 32 | go_at_call 33); refine (hcall.out w2 hb2 _ _ hRw.out hcw hCw.out).mono ?_; rintro e w3 ⟨rfl, hN3, hB3, hK3⟩; have z0 := net_zero hN3 hB3; replace z0 := Lib.hid z0; obtain ⟨v3, hgb, _, hRl⟩ := hN3; obtain ⟨Al, cl, rfl⟩ := Kd.R_slice hRl; have c0 := (blk_cell hgb 0).trans rfl; have c1 := (blk_cell hgb 1).trans rfl; have c2 := (blk_cell hgb 2).trans rfl; have f0 := blk_frozen hgb 0; have f1 := blk_frozen hgb 1; have f2 := blk_frozen hgb 2; clear hgb hRl))
              (try simp only [Exit.inBlock, Exit.then])
              obtain ⟨z1, z3, z4, z5⟩ := z0.out (.int .i64 0) (.bool false) (.slice none 0 0)
              refine bodyPost_ret (v := .tuple #[.agg #[.int .i64 0, .bool false, .slice none 0 0], .int .i64 ((i + 1 : Nat) : Int), .int .i64 fe]) (by simp [results, Tryd.results15, go_sem, z3, z4, z5]; done) rfl ?_
              exact ⟨_, rfl, Kd.R_nil _ _ _ _ _, z1⟩

theorem netfmt_Parse.calls (a0 : ByteArray) (r1 : Int) (r2 : Bool) (r3 : List S37) (r4 r5 : Int) (w : World) (hT : TabW w) (h : netfmt_Parse.f a0 = some (r1, r2, r3, r4, r5)) :
    Calls Tryd.prog 15 #[.string a0] w fun e w' => ∃ v0_ : Value, e = .returned (.tuple #[.agg #[.int .i64 r1, .bool r2, v0_], .int .i64 r4, .int .i64 r5]) ∧ Kd.R k37 37 w' w.heap.size (fun _ => True) v0_ r3 ∧ Below w.heap.size w w' := by
  unfold netfmt_Parse.f at h
  split at h
  case isFalse => cases h
  rename_i hs
  have hp := parse_walk a0 w hT hs
  rw [Option.some.inj h] at hp
  exact hp
end Go.Proofs.YthalacoockoomaaDoor.H

/- netfmt.Print: a network's text. -/
namespace Go.Proofs.YthalacoockoomaaDoor.H
open Go Go.RowKit Go.Proofs.YthalacoockoomaaDoor.Print Go.Proofs.YthalacoockoomaaDoorW.PrintWords Go.Proofs.YthalacoockoomaaDoorW.PrintLast

def arcsF (n : Int) : List S37 → Int
  | [] => 0
  | a :: r => if arcF n a = 0 then arcsF n r else arcF n a
def checkF (n : Int) (l : List S37) : Int := if nodesF n = 0 then (if l.length > 200 then 2 else arcsF n l) else nodesF n
theorem arc_ev (n : Int) (a : S37) : Ev (fun k => netfmt_arc.f k n a.f0 a.f1 a.f2 a.f3) (arcF n a) := by
  obtain ⟨k, hk⟩ := arc_f n a
  exact Ev.of (fun k => netfmt_arc.mono _ _ _ _ _ k) hk
theorem rd_at (l : List S37) (i : Nat) (h : i < l.length) : rd_T37 l (i : Int) = l[i] := by simp [rd_T37, h]
theorem arcs_go (n : Int) (b : Bool) (l : List S37) (hl : l.length ≤ 200) : ∀ (d i : Nat), i + d = l.length → Ev (fun k => netfmt_Check.l0 k l (l.length : Int) (i : Int) n b l) (arcsF n (l.drop i))
  | 0, i, hi => by
    rw [List.drop_eq_nil_of_le (by omega), arcsF]
    refine Ev.step (f := fun _ => _) (fun k => ?_) (Ev.now _)
    simp only [netfmt_Check.l0]
    rw [if_neg (by omega)]
  | d + 1, i, hi => by
    have hlt : i < l.length := by omega
    rw [List.drop_eq_getElem_cons hlt, arcsF]
    refine Ev.step (f := fun k => (netfmt_arc.f k n l[i].f0 l[i].f1 l[i].f2 l[i].f3).bind fun t106 => (if t106 = 0 then (netfmt_Check.l0 k l (l.length : Int) ((i + 1 : Nat) : Int) n b l) else (some t106))) (fun k => ?_) (Ev.bind (arc_ev n l[i]) ?_)
    · simp only [netfmt_Check.l0]
      rw [if_pos (by omega), if_pos (by omega), if_pos (by omega), rd_at l i hlt, w1n i (by omega)]
    · by_cases h : arcF n l[i] = 0
      · rw [if_pos h]
        refine Ev.congr (fun k => ?_) (arcs_go n b l hl d (i + 1) (by omega))
        rw [if_pos h]
      · rw [if_neg h]
        refine Ev.congr (fun k => ?_) (Ev.now _)
        rw [if_neg h]
theorem check_ev (n : Int) (b : Bool) (l : List S37) : Ev (fun k => netfmt_Check.f k n b l) (checkF n l) := by
  unfold checkF
  by_cases h : nodesF n = 0
  · rw [if_pos h]
    by_cases hl : l.length > 200
    · rw [if_pos hl]
      refine Ev.congr (fun k => ?_) (Ev.now _)
      unfold netfmt_Check.f
      rw [nodes_f, Option.bind_some, if_pos h, if_pos (by omega)]
    · rw [if_neg hl]
      refine Ev.congr (fun k => ?_) (arcs_go n b l (by omega) l.length 0 (by omega))
      unfold netfmt_Check.f
      rw [nodes_f, Option.bind_some, if_pos h, if_neg (by omega)]
      rfl
  · rw [if_neg h]
    refine Ev.congr (fun k => ?_) (Ev.now _)
    unfold netfmt_Check.f
    rw [nodes_f, Option.bind_some, if_neg h]

def arcInts (a : S37) : List Int := [a.f0, a.f1, a.f2, a.f3]
def arcL (a : S37) : List UInt8 := rowHead [97, 114, 99] (arcInts a) ++ [10]
def netHead (n : Int) (b : Bool) : List UInt8 := [110, 101, 116, 32] ++ Lib.itoa n ++ (if b = true then [32, 104, 111, 108, 100, 10] else [32, 102, 114, 101, 101, 10])
def netL (n : Int) (b : Bool) (l : List S37) : List UInt8 := netHead n b ++ l.flatMap arcL
def netfmt_Print.f (a0_0 : Int) (a0_1 : Bool) (l0_2 : List S37) : Option (ByteArray × Int) := some (if checkF a0_0 l0_2 = 0 then (mkB (netL a0_0 a0_1 l0_2), 0) else (⟨#[]⟩, checkF a0_0 l0_2))

theorem arcF_ok {n : Int} {a : S37} (h : arcF n a = 0) : (0 ≤ a.f0 ∧ a.f0 < n) ∧ (0 ≤ a.f1 ∧ a.f1 < n) ∧ (0 ≤ a.f2 ∧ a.f2 ≤ 1048576) ∧ (0 ≤ a.f3 ∧ a.f3 ≤ 1048576) := by
  unfold arcF at h
  split at h
  · omega
  · split at h
    · omega
    · omega
theorem arcsF_ok {n : Int} : ∀ {l : List S37}, arcsF n l = 0 → ∀ a ∈ l, arcF n a = 0
  | [], _, _, h => by cases h
  | x :: l, h, a, ha => by
    rw [arcsF] at h
    split at h
    · rename_i hx
      rcases List.mem_cons.1 ha with e | e
      · rw [e]; exact hx
      · exact arcsF_ok h a e
    · rename_i hx
      exact absurd h hx
theorem check_ok {n : Int} {l : List S37} (h : checkF n l = 0) : (1 ≤ n ∧ n ≤ 50) ∧ l.length ≤ 200 ∧ ∀ a ∈ l, arcF n a = 0 := by
  unfold checkF at h
  split at h
  · rename_i h1
    split at h
    · omega
    · refine ⟨?_, by omega, arcsF_ok h⟩
      unfold nodesF at h1
      split at h1
      · omega
      · split at h1 <;> omega
  · rename_i h1
    exact absurd h h1

theorem own_newI (w : World) (xs : List Int) (hm : xs.length ≤ maxLen) : (w.alloc (.cells (xs.map (Value.int .i64)).toArray 3)).ownsRow w.heap.size 3 1 (.slice (some ⟨w.heap.size, 0, none⟩) xs.length xs.length) xs.length (xs.map (Value.int .i64)) :=
  ⟨by simp, .inr ⟨w.heap.size, xs.length, _, rfl, Nat.le_refl _, World.alloc_heap_new w _, Nat.le_refl _, hm, by simp, by rw [List.toList_toArray, Nat.mul_one]; exact List.take_of_length_le (by simp)⟩⟩
theorem arcL_le (a : S37) (h : ∀ x ∈ arcInts a, inRange x) : (arcL a).length ≤ 88 := by
  unfold arcL
  have := rowHead_le [97, 114, 99] (arcInts a) h
  rw [List.length_append]
  simp [arcInts] at this ⊢
  omega
theorem arcs_take (l : List S37) (i : Nat) (hi : i < l.length) : (l.take (i + 1)).flatMap arcL = (l.take i).flatMap arcL ++ arcL l[i] := by
  rw [List.take_succ_eq_append_getElem hi, List.flatMap_append]
  simp
theorem arcs_len (l : List S37) (h : ∀ a ∈ l, ∀ x ∈ arcInts a, inRange x) : (l.flatMap arcL).length ≤ 88 * l.length := by
  induction l with
  | nil => simp
  | cons a l ih =>
    have h1 := arcL_le a (h a (by simp))
    have h2 := ih (fun b hb => h b (by simp [hb]))
    simp only [List.flatMap_cons, List.length_append, List.length_cons]
    omega

/-- The call of Row for one arc. -/
theorem row_arc (a : S37) (h : ∀ x ∈ arcInts a, inRange x) (W : World) (hT : TabW W) :
    Calls Tryd.prog 23 #[.string ⟨#[97, 114, 99]⟩, .slice (some ⟨W.heap.size, 0, none⟩) 4 4] (W.alloc (.cells #[.int .i64 a.f0, .int .i64 a.f1, .int .i64 a.f2, .int .i64 a.f3] 3)) fun e w' => e = .returned (.string (mkB (arcL a))) ∧ Below W.heap.size W w' := by
  have hR : Kd.R (Kd.int .i64) 3 (W.alloc (.cells ((arcInts a).map (Value.int .i64)).toArray 3)) W.heap.size (fun _ => True) (.slice (some ⟨W.heap.size, 0, none⟩) 4 4) (arcInts a) :=
    Kd.R_of_own (enc := Value.int .i64) (h1 := fun _ => rfl) (own_newI W (arcInts a) (by simp [arcInts, maxLen])) (fun _ _ => trivial)
  obtain ⟨A, c, e, hc, hC⟩ := Kd.R_reads hR
  injection e with e1 _ e2
  subst e1 e2
  have hb : Below W.heap.size W (W.alloc (.cells ((arcInts a).map (Value.int .i64)).toArray 3)) := below_alloc (Below.refl _ _) _
  have hrow := word_Row.calls ⟨#[97, 114, 99]⟩ _ 4 (arcInts a) (mkB (arcL a)) _ (hT.below hb) hC hc (by unfold word_Row.f; rw [if_pos ⟨by simp [arcInts, ByteArray.size], h⟩]; rfl)
  exact hrow.mono fun e w' ⟨he, hb2⟩ => ⟨he, below_step hb hb2⟩

theorem arcInts_ok {n : Int} {a : S37} (hn : n ≤ 50) (h : arcF n a = 0) : ∀ x ∈ arcInts a, inRange x := by
  obtain ⟨h1, h2, h3, h4⟩ := arcF_ok h
  intro x hx
  simp only [arcInts, List.mem_cons, List.mem_nil_iff, or_false] at hx
  unfold inRange
  rcases hx with rfl | rfl | rfl | rfl <;> omega
def netHeadB (n : Int) (b : Bool) : ByteArray := (⟨#[110, 101, 116, 32]⟩ ++ mkB (Lib.itoa n)) ++ (if b = true then ⟨#[32, 104, 111, 108, 100, 10]⟩ else ⟨#[32, 102, 114, 101, 101, 10]⟩)
theorem netHeadB_data (n : Int) (b : Bool) : (netHeadB n b).data.toList = netHead n b := by
  unfold netHeadB netHead
  cases b <;> simp [mkB]
theorem netHeadB_size (n : Int) (b : Bool) : (netHeadB n b).size = (netHead n b).length := by
  rw [← netHeadB_data]
  simp
theorem netHead_le (n : Int) (b : Bool) (h : inRange n) : (netHead n b).length ≤ 30 := by
  have := itoa_le n h
  unfold netHead
  cases b <;> simp <;> omega

set_option maxHeartbeats 1000000 in
set_option maxRecDepth 100000 in
theorem netfmt_Print.calls (a0_0 : Int) (a0_1 : Bool) (A0_2 : Option Addr) (c0_2 : Nat) (l0_2 : List S37) (r1 : ByteArray) (r2 : Int) (w : World) (hT : TabW w) (hr0_2 : Kd.C k37 w A0_2 l0_2.length l0_2) (hc0_2 : l0_2.length ≤ c0_2) (h : netfmt_Print.f a0_0 a0_1 l0_2 = some (r1, r2)) :
    Calls Tryd.prog 10 #[.agg #[.int .i64 a0_0, .bool a0_1, .slice A0_2 l0_2.length c0_2]] w fun e w' => e = .returned (.tuple #[.string r1, .int .i64 r2]) ∧ Below w.heap.size w w' := by
  have h' := Option.some.inj h
  clear h
  obtain ⟨kc, hkc⟩ := (check_ev a0_0 a0_1 l0_2).rounds
  have hbox : Below w.heap.size w (w.alloc (.cells #[.int .i64 a0_0, .bool a0_1, .slice A0_2 l0_2.length c0_2] 24)) := below_alloc (Below.refl _ _) _
  have hgb : (w.alloc (.cells #[.int .i64 a0_0, .bool a0_1, .slice A0_2 l0_2.length c0_2] 24)).heap[w.heap.size]? = some (.cells #[.int .i64 a0_0, .bool a0_1, .slice A0_2 l0_2.length c0_2] 24 (0, 0)) := heap_alloc_new w _
  have hchk : Calls Tryd.prog 13 #[.agg #[.int .i64 a0_0, .bool a0_1, .slice A0_2 l0_2.length c0_2]] (w.alloc (.cells #[.int .i64 a0_0, .bool a0_1, .slice A0_2 l0_2.length c0_2] 24)) fun e w1 => e = .returned (.int .i64 (checkF a0_0 l0_2)) ∧ Below w.heap.size w w1 ∧ w1.heap[w.heap.size]? = some (.cells #[.int .i64 a0_0, .bool a0_1, .slice A0_2 l0_2.length c0_2] 24 (0, 0)) := by
    refine (netfmt_Check.calls kc a0_0 a0_1 A0_2 c0_2 l0_2 _ _ (Kd.C_below hr0_2 hbox) hc0_2 hkc).mono ?_
    rintro e w1 ⟨rfl, hb⟩
    exact ⟨rfl, below_step hbox hb, (hb.block _ (blk_lt hgb)).trans hgb⟩
  have HC := Lib.hid hchk
  have HR := Lib.hid hr0_2
  have HT := Lib.hid hT
  clear hchk hbox hgb hkc hT hr0_2
  by_cases h0 : checkF a0_0 l0_2 = 0
  case neg =>
    rw [if_neg h0] at h'
    obtain ⟨rfl, rfl⟩ := Prod.mk.inj h'
    have d1 : (checkF a0_0 l0_2 == 0) = false := beq_eq_false_iff_ne.mpr h0
    have d2 : (checkF a0_0 l0_2 != 0) = true := bne_iff_ne.mpr h0
    clear h' h0
    generalize checkF a0_0 l0_2 = ce at *
    go_enter Tryd.func10, Tryd.ntmps10
    go_wp2_with (go_at_call 13; refine HC.out.mono ?_; rintro e w1 ⟨rfl, hb, hgb⟩)
    go_ret2
    exact ⟨rfl, hb⟩
  case pos =>
    rw [if_pos h0] at h'
    obtain ⟨rfl, rfl⟩ := Prod.mk.inj h'
    have hok := check_ok h0
    have d1 : (checkF a0_0 l0_2 == 0) = true := beq_iff_eq.mpr h0
    have d2 : (checkF a0_0 l0_2 != 0) = false := bne_eq_false_iff_eq.mpr h0
    rw [h0] at HC
    clear h' h0 d1 d2
    have hin : inRange a0_0 := by unfold inRange; omega
    have hai : ∀ a ∈ l0_2, ∀ x ∈ arcInts a, inRange x := fun a ha => arcInts_ok hok.1.2 (hok.2.2 a ha)
    have hnh := netHead_le a0_0 a0_1 hin
    have hlen := hok.2.1
    have hall := arcs_len l0_2 hai
    have hit := itoa_le a0_0 hin
    have hsz : (mkB (Lib.itoa a0_0)).size = (Lib.itoa a0_0).length := by simp [mkB, ByteArray.size]
    have HAI := Lib.hid hai
    have HOK := Lib.hid hok
    clear hai hok
    have hcat1 : 4 + (mkB (Lib.itoa a0_0)).size ≤ 9223372036854775807 := by omega
    have hcat2 : 4 + (mkB (Lib.itoa a0_0)).size + 6 ≤ 9223372036854775807 := by omega
    have fin : ∀ (w1 wr : World), Below w.heap.size w w1 → Below w1.heap.size w1 wr → Below w.heap.size w wr := fun w1 wr h1 h2 => below_step h1 h2
    obtain ⟨s1, hs1⟩ : ∃ s : ByteArray, s = (⟨#[110, 101, 116, 32]⟩ ++ mkB (Lib.itoa a0_0)) ++ ⟨#[32, 104, 111, 108, 100, 10]⟩ := ⟨_, rfl⟩
    obtain ⟨s0, hs0⟩ : ∃ s : ByteArray, s = (⟨#[110, 101, 116, 32]⟩ ++ mkB (Lib.itoa a0_0)) ++ ⟨#[32, 102, 114, 101, 101, 10]⟩ := ⟨_, rfl⟩
    have hd1 : s1.data.toList = netHead a0_0 true := by rw [hs1]; exact netHeadB_data a0_0 true
    have hd0 : s0.data.toList = netHead a0_0 false := by rw [hs0]; exact netHeadB_data a0_0 false
    have hz1 : s1.size ≤ 30 := by have e : s1.data.toList.length = s1.size := by simp
                                  have := netHead_le a0_0 true hin
                                  rw [hd1] at e
                                  omega
    have hz0 : s0.size ≤ 30 := by have e : s0.data.toList.length = s0.size := by simp
                                  have := netHead_le a0_0 false hin
                                  rw [hd0] at e
                                  omega
    replace hs1 := Lib.hid hs1
    replace hs0 := Lib.hid hs0
    replace hd1 := Lib.hid hd1
    replace hd0 := Lib.hid hd0
    obtain ⟨HD, hHD⟩ : ∃ HD, HD = netHead a0_0 a0_1 := ⟨_, rfl⟩
    have hHDl : HD.length ≤ 30 := by rw [hHD]; exact hnh
    have hres : mkB (netL a0_0 a0_1 l0_2) = mkB (HD ++ l0_2.flatMap arcL) := by rw [hHD]; rfl
    rw [hres]
    clear hres hnh
    cases a0_1
    all_goals
      go_enter Tryd.func10, Tryd.ntmps10
      go_wp2_with (first
        | (go_at_call 13; refine HC.out.mono ?_; rintro e w1 ⟨rfl, hb, hgb⟩; have g0 := (blk_cell hgb 0).trans rfl; have g1 := (blk_cell hgb 1).trans rfl; have g2 := (blk_cell hgb 2).trans rfl; replace hgb := Lib.hid hgb; have g0a := (World.cell?_alloc_lt w1 (.cells #[.pointer none, .slice none 0 0] 46) _ (World.block_lt_of_cell? w1 _ g0)).trans g0; have hW0 : Wr w1.heap.size [] (w1.alloc (.cells #[.pointer none, .slice none 0 0] 46)) := Lib.fresh_isBuilder _ _ w1; have hB0 : Below w1.heap.size w1 (w1.alloc (.cells #[.pointer none, .slice none 0 0] 46)) := (Below.refl _ w1).alloc (Nat.le_refl _) _; replace hW0 := Lib.hid hW0)
        | (go_at_call 22; refine (text_ok a0_0 hin _ (HT.out.below (fin _ _ hb hB0))).mono ?_; rintro e w3 ⟨rfl, hb3⟩; have hW3 := wr_below hW0.out hb3; have hB3 : Below w1.heap.size w1 w3 := hB0.trans (hb3.mono hB0.size); replace hW3 := Lib.hid hW3; have g2b := (hB3.cell (World.block_lt_of_cell? w1 _ g2)).trans g2)
        | (go_at_call 21; (first | rw [← hs1.out] | rw [← hs0.out]); refine (wr_str w1.heap.size [] _ w3 hW3.out (by simp only [List.length_nil]; omega) hB3.size).mono ?_; rintro e w4 ⟨rfl, hI1, hb4⟩; have hB1 : Below w1.heap.size w1 w4 := hB3.trans hb4; have g2c := (hB1.cell (World.block_lt_of_cell? w1 _ g2)).trans g2))
      have hI2 : Wr w1.heap.size HD w4 := by
        rw [hHD]
        (first | rw [← hd1.out] | rw [← hd0.out])
        simpa using hI1
      obtain ⟨H, hH⟩ : ∃ H, w1.heap.size = H := ⟨_, rfl⟩
      have hbw : ∀ W, Below H w1 W → Below w.heap.size w W := fun W h => below_step hb (hH ▸ h)
      rw [hH] at hI2 hB1
      rw [hH]
      clear hI1 hb4 hB3 hW3 hb3 hB0 hW0 g0 g1 g2 g0a g2b g2c hgb hs1 hs0 hd1 hd0 hHD hz1 hz0 HC fin hcat1 hcat2 hit hsz
      replace hbw := Lib.hid hbw
      go_loopw [26] (fun v wr => ∃ i : Nat, v = .int .i64 i ∧ i ≤ l0_2.length ∧ Wr H (HD ++ (l0_2.take i).flatMap arcL) wr ∧ Below H w1 wr) (fun v _ => l0_2.length - (intOf v).toNat)
      case atStart => exact ⟨0, rfl, Nat.zero_le _, by simpa using hI2, hB1⟩
      case round =>
        obtain ⟨i, rfl, hi, hI, hB⟩ := hrel
        have hBz : H ≤ wr.heap.size := by have := hB.size; omega
        have hbW := hbw.out wr hB
        have htl := arcs_len (l0_2.take i) (fun a ha => HAI.out a (List.mem_of_mem_take ha))
        have htl2 : (l0_2.take i).length ≤ i := List.length_take_le _ _
        by_cases hlt : i < l0_2.length
        · obtain ⟨ad, e1, y0, y1, y2, y3⟩ := at_T37 (Kd.C_below HR.out hbW) (i : Int) (by omega) (by omega)
          cases e1
          have p1 : (0 ≤ (i : Int)) = True := eq_true (by omega)
          have q1 : ((i : Int) < (l0_2.length : Int)) = True := eq_true (by omega)
          rw [rd_at _ i hlt, Int.toNat_natCast] at y0 y1 y2 y3
          have hina := HAI.out _ (List.getElem_mem hlt)
          have hnext := arcs_take l0_2 i hlt
          generalize l0_2[i] = a at *
          have hla := arcL_le a hina
          have hsa : (mkB (arcL a)).size = (arcL a).length := by simp [mkB, ByteArray.size]
          have hWsz : (wr.alloc (.cells #[.int .i64 a.f0, .int .i64 a.f1, .int .i64 a.f2, .int .i64 a.f3] 37)).heap.size = wr.heap.size + 1 := by simp
          have hbA : Below wr.heap.size wr (wr.alloc (.cells #[.int .i64 a.f0, .int .i64 a.f1, .int .i64 a.f2, .int .i64 a.f3] 37)) := below_alloc (Below.refl _ _) _
          have hrow := row_arc a hina (wr.alloc (.cells #[.int .i64 a.f0, .int .i64 a.f1, .int .i64 a.f2, .int .i64 a.f3] 37)) (HT.out.below (below_step hbW hbA))
          have hrow2 := hrow.mono (fun e w' ⟨h1, h2⟩ => (⟨h1, below_step hbA h2⟩ : e = Ending.returned (.string (mkB (arcL a))) ∧ Below wr.heap.size wr w'))
          rw [hWsz] at hrow2
          replace hrow2 := Lib.hid hrow2
          replace hnext := Lib.hid hnext
          clear hrow hbA
          go_wp2_with (first
            | (go_at_call 23; refine hrow2.out.mono ?_; rintro e w5 ⟨rfl, hb5⟩)
            | (go_at_call 21; refine (wr_str H _ (mkB (arcL a)) w5 (wr_below hI hb5) (by simp only [List.length_append]; omega) (Nat.le_trans hBz hb5.size)).mono ?_; rintro e w6 ⟨rfl, hI6, hb6⟩))
          go_roundw
          case rel =>
            refine ⟨i + 1, by go_num, by omega, ?_, (hB.trans (hb5.mono hBz)).trans hb6⟩
            rw [hnext.out, ← List.append_assoc]
            simpa [mkB] using hI6
          case measure => simp [intOf]; omega
        · have q1 : decide ((i : Int) < (l0_2.length : Int)) = false := decide_eq_false (by omega)
          have hti : l0_2.take i = l0_2 := List.take_of_length_le (by omega)
          rw [hti] at hI
          go_wp2_with (go_at_call 24; refine (wr_end H _ _ hI hBz).mono ?_; rintro e w3 ⟨rfl, hb3⟩)
          go_ret2
          exact ⟨rfl, hbw.out w3 (hB.trans hb3)⟩
end Go.Proofs.YthalacoockoomaaDoor.H
