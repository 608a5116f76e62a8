/- What the reference's Number, Text, Row and Numbers compute, and that the program's are the same. -/
import Derived.Test.YtdjnnkfopgmpaaaDoorHPureSplits
import Derived.Test.YtdjnnkfopgmpaaaDoorHRow
namespace Go.Proofs.YtdjnnkfopgmpaaaDoor.PureWord
open Go.RowKit Go.Proofs.YtdjnnkfopgmpaaaDoor.H Go.Proofs.YtdjnnkfopgmpaaaDoor.Print Go.Proofs.YtdjnnkfopgmpaaaDoorW.PrintWords Go.Proofs.YtdjnnkfopgmpaaaDoorW.PrintLast

/-! ### Number -/
/-- What the loop of the reference's Number comes to: from n on, with l still to come, i bytes being over. -/
def refNum (len : Nat) (neg : Bool) : List UInt8 → Int → Nat → Int × Int
  | [], n, _ => if 18 < len then (0, 10) else (if neg then -n else n, 0)
  | c :: l, n, i => if isDig c then refNum len neg l (if i < 18 then 10 * n + ((c.toNat : Int) - 48) else n) (i + 1) else (0, 40)

theorem refNum_bad (len : Nat) (neg : Bool) : ∀ (l : List UInt8) (n : Int) (i : Nat), ¬ (∀ c ∈ l, isDig c) → refNum len neg l n i = (0, 40)
  | [], _, _, h => absurd (fun c hc => by simp at hc) h
  | c :: l, n, i, h => by
    rw [refNum]
    by_cases hc : isDig c
    · rw [if_pos hc]
      exact refNum_bad len neg l _ _ (fun h' => h (fun d hd => by
        rcases List.mem_cons.1 hd with e | e
        · rw [e]; exact hc
        · exact h' d e))
    · rw [if_neg hc]
theorem refNum_long (len : Nat) (neg : Bool) (hl : 18 < len) : ∀ (l : List UInt8) (n : Int) (i : Nat), (∀ c ∈ l, isDig c) → refNum len neg l n i = (0, 10)
  | [], _, _, _ => by rw [refNum, if_pos hl]
  | c :: l, n, i, h => by
    rw [refNum, if_pos (h c (by simp))]
    exact refNum_long len neg hl l _ _ (fun d hd => h d (by simp [hd]))
theorem refNum_short (len : Nat) (neg : Bool) (hl : ¬ 18 < len) : ∀ (l : List UInt8) (n : Int) (i : Nat), (∀ c ∈ l, isDig c) → i + l.length ≤ 18 → refNum len neg l n i = (if neg then -(valF n l) else valF n l, 0)
  | [], n, _, _, _ => by rw [refNum, if_neg hl]; rfl
  | c :: l, n, i, h, hi => by
    rw [List.length_cons] at hi
    rw [refNum, if_pos (h c (by simp)), if_pos (by omega), refNum_short len neg hl l _ _ (fun d hd => h d (by simp [hd])) (by omega)]
    rfl

theorem numEnd_ref (d : List UInt8) (neg : Bool) : numEnd d.length neg (numGo d 0) = refNum d.length neg d 0 0 := by
  by_cases h : ∀ c ∈ d, isDig c
  · by_cases hl : 18 < d.length
    · obtain ⟨m, hm⟩ := numGo_good d 0 h
      rw [refNum_long _ _ hl _ _ _ h, hm, numEnd, if_pos hl]
    · rw [refNum_short _ _ hl _ _ _ h (by omega), numGo_val d 0 0 h (by omega) (by decide) (by omega), numEnd, if_neg hl]
  · rw [numGo_bad _ _ h, refNum_bad _ _ _ _ _ h]
    rfl

theorem wI {n : Int} (h1 : -9223372036854775808 ≤ n) (h2 : n ≤ 9223372036854775807) : wrap64 n = n := by
  unfold wrap64
  omega

theorem refNumber_go (d : ByteArray) (neg : Bool) (hd : d.size ≤ 4611686018427387904) : ∀ (q i : Nat) (n : Int), i + q = d.size → (0 ≤ n ∧ n < 10 ^ (min i 18)) →
    Ev (fun k => ebbtideref04_Number.l0 k d neg n (i : Int)) (refNum d.size neg (d.data.toList.drop i) n i)
  | 0, i, n, hi, hn => by
    have hie : i = d.size := by omega
    have hp : (10 : Int) ^ (min i 18) ≤ 10 ^ 18 := pow10_le (by omega)
    have h18 : (10 : Int) ^ 18 = 1000000000000000000 := by decide
    subst hie
    rw [List.drop_eq_nil_of_le (by rw [size_len]; exact Nat.le_refl _), refNum]
    refine Ev.step (f := fun _ => _) (fun k => ?_) (Ev.now _)
    simp only [ebbtideref04_Number.l0]
    rw [if_neg (by omega)]
    by_cases h : 18 < d.size
    · rw [if_pos (by omega), if_pos h]
    · rw [if_neg (by omega), if_neg h, wI (by omega) (by omega)]
      cases neg <;> rfl
  | q + 1, i, n, hi, hn => by
    have hlt : i < d.size := by omega
    have hp : (10 : Int) ^ (min i 18) ≤ 10 ^ 18 := pow10_le (by omega)
    have h18 : (10 : Int) ^ 18 = 1000000000000000000 := by decide
    rw [drop_at d i hlt, refNum]
    generalize hc : d.data.toList[i]'(by simpa using hlt) = c
    have hb : bt d (i : Int) = (c.toNat : Int) := by rw [bt_nat d i hlt, hc]
    by_cases hdig : isDig c
    · have h1 := hdig.1
      have h2 := hdig.2
      rw [if_pos hdig]
      have hj : Ev (fun k => ebbtideref04_Number.j4 k d neg n (i : Int) false) (refNum d.size neg (d.data.toList.drop (i + 1)) (if i < 18 then 10 * n + ((c.toNat : Int) - 48) else n) (i + 1)) := by
        by_cases hi18 : i < 18
        · rw [if_pos hi18]
          have hm : min i 18 = i := by omega
          have hm1 : min (i + 1) 18 = i + 1 := by omega
          have hp17 : (10 : Int) ^ i ≤ 10 ^ 17 := pow10_le (by omega)
          have h17 : (10 : Int) ^ 17 = 100000000000000000 := by decide
          rw [hm] at hn
          have ih := refNumber_go d neg hd q (i + 1) (10 * n + ((c.toNat : Int) - 48)) (by omega) (by rw [hm1, Int.pow_succ]; omega)
          refine Ev.step (f := fun k => ebbtideref04_Number.l0 k d neg (10 * n + ((c.toNat : Int) - 48)) ((i + 1 : Nat) : Int)) (fun k => ?_) ih
          simp only [ebbtideref04_Number.j4]
          rw [if_neg (by decide), if_pos (by omega), if_pos (by omega), if_pos (by omega), hb, w1 i (by omega), wI (n := n * 10) (by omega) (by omega), wI (n := (c.toNat : Int)) (by omega) (by omega), wI (n := n * 10 + _) (by omega) (by omega), wI (by omega) (by omega)]
          congr 1
          omega
        · rw [if_neg hi18]
          have hm : min i 18 = 18 := by omega
          have hm1 : min (i + 1) 18 = 18 := by omega
          rw [hm] at hn
          have ih := refNumber_go d neg hd q (i + 1) n (by omega) (by rw [hm1]; exact hn)
          refine Ev.step (f := fun k => ebbtideref04_Number.l0 k d neg n ((i + 1 : Nat) : Int)) (fun k => ?_) ih
          simp only [ebbtideref04_Number.j4]
          rw [if_neg (by decide), if_neg (by omega), w1 i (by omega)]
      refine Ev.step (f := fun k => ebbtideref04_Number.j4 k d neg n (i : Int) false) (fun k => ?_) hj
      simp only [ebbtideref04_Number.l0]
      rw [if_pos (by omega), if_pos (by omega), if_neg (by omega), hb]
      congr 1
      simp
      omega
    · rw [if_neg hdig]
      have hj : Ev (fun k => ebbtideref04_Number.j4 k d neg n (i : Int) true) (0, 40) := by
        refine Ev.step (f := fun _ => _) (fun k => ?_) (Ev.now _)
        simp only [ebbtideref04_Number.j4]
        rw [if_pos trivial]
      refine Ev.step (f := fun k => ebbtideref04_Number.j4 k d neg n (i : Int) true) (fun k => ?_) hj
      simp only [ebbtideref04_Number.l0]
      rw [if_pos (by omega), if_pos (by omega), hb]
      by_cases hl : (c.toNat : Int) < 48
      · rw [if_pos hl]
      · rw [if_neg hl]
        congr 1
        unfold isDig at hdig
        simp
        omega

theorem refNumber_j1 (d : ByteArray) (neg : Bool) (hd : d.size ≤ 4611686018427387904) : Ev (fun k => ebbtideref04_Number.j1 k d neg) (numTail d.data.toList neg) := by
  have htrue : Ev (fun k => ebbtideref04_Number.j2 k d neg true) (0, 40) := by
    refine Ev.step (f := fun _ => _) (fun k => ?_) (Ev.now _)
    simp only [ebbtideref04_Number.j2]
    rw [if_pos trivial]
  unfold numTail
  by_cases h0 : d.data.toList = []
  · rw [if_pos h0]
    refine Ev.step (f := fun k => ebbtideref04_Number.j2 k d neg true) (fun k => ?_) htrue
    simp only [ebbtideref04_Number.j1]
    rw [if_pos (by rw [ByteArray.toList_eq]; exact h0)]
  · rw [if_neg h0]
    have hpos : 0 < d.size := by
      rw [← size_len]
      exact List.length_pos_iff.2 h0
    have hhd : d.data.toList.head? = some (d.data.toList[0]'(by simpa using hpos)) := by
      rw [List.head?_eq_getElem?, List.getElem?_eq_getElem (by simpa using hpos)]
    have hb : bt d 0 = ((d.data.toList[0]'(by simpa using hpos)).toNat : Int) := bt_nat d 0 hpos
    generalize hc : d.data.toList[0]'(by simpa using hpos) = c at hhd hb
    have hrest : Ev (fun k => ebbtideref04_Number.j2 k d neg false) (numEnd d.data.toList.length neg (numGo d.data.toList 0)) := by
      rw [numEnd_ref, size_len]
      refine Ev.step (f := fun k => ebbtideref04_Number.l0 k d neg 0 0) (fun k => ?_) ?_
      · simp only [ebbtideref04_Number.j2]
        rw [if_neg (by decide)]
      · have := refNumber_go d neg hd d.size 0 0 (by omega) (by simp)
        simpa using this
    have hstep : ∀ k, ebbtideref04_Number.j1 (k + 1) d neg = if (c.toNat : Int) = 48 then (if (d.size : Int) > 1 then (ebbtideref04_Number.j2 k d neg true) else (ebbtideref04_Number.j2 k d neg neg)) else (ebbtideref04_Number.j2 k d neg false) := fun k => by
      simp only [ebbtideref04_Number.j1]
      rw [if_neg (by rw [ByteArray.toList_eq]; exact h0), if_pos (by omega), hb]
    by_cases h48 : c = 48
    · subst h48
      have hone : d.data.toList ≠ [48] ↔ 1 < d.size := by
        constructor
        · intro h
          rw [← size_len]
          match hd' : d.data.toList, h0 with
          | [x], _ =>
            rw [hd'] at hhd
            simp at hhd
            rw [hd', hhd] at h
            exact absurd rfl h
          | x :: y :: l, _ => simp
        · intro h e
          rw [← size_len, e] at h
          simp at h
      by_cases hl : 1 < d.size
      · rw [if_pos ⟨hhd, .inl (hone.2 hl)⟩]
        refine Ev.step (f := fun k => ebbtideref04_Number.j2 k d neg true) (fun k => ?_) htrue
        rw [hstep, if_pos (by decide), if_pos (by omega)]
      · cases neg with
        | true =>
          rw [if_pos ⟨hhd, .inr rfl⟩]
          refine Ev.step (f := fun k => ebbtideref04_Number.j2 k d true true) (fun k => ?_) htrue
          rw [hstep, if_pos (by decide), if_neg (by omega)]
        | false =>
          rw [if_neg (by
            rintro ⟨_, h | h⟩
            · exact hl (hone.1 h)
            · cases h)]
          refine Ev.step (f := fun k => ebbtideref04_Number.j2 k d false false) (fun k => ?_) hrest
          rw [hstep, if_pos (by decide), if_neg (by omega)]
    · rw [if_neg (by
        rintro ⟨h, _⟩
        rw [hhd] at h
        exact h48 (Option.some.inj h))]
      refine Ev.step (f := fun k => ebbtideref04_Number.j2 k d neg false) (fun k => ?_) hrest
      rw [hstep, if_neg (fun (e : (c.toNat : Int) = 48) => h48 ((isByte c 48 (by decide)).1 e))]

theorem refNumber (s : ByteArray) (hs : s.size ≤ 4611686018427387904) : Ev (fun k => ebbtideref04_Number.f k s) (numF s.data.toList) := by
  unfold numF
  have hfalse : ∀ (h : ¬ s.data.toList.head? = some 45), Ev (fun k => ebbtideref04_Number.j0 k s false) (numTail s.data.toList false) := fun h => by
    refine Ev.step (f := fun k => ebbtideref04_Number.j1 k s false) (fun k => ?_) (refNumber_j1 s false hs)
    simp only [ebbtideref04_Number.j0]
    rw [if_neg (by decide)]
  by_cases h0 : s.data.toList = []
  · have hh : ¬ s.data.toList.head? = some 45 := by rw [h0]; simp
    rw [if_neg hh]
    refine Ev.congr (f := fun k => ebbtideref04_Number.j0 k s false) (fun k => ?_) (hfalse hh)
    simp only [ebbtideref04_Number.f]
    rw [if_pos (by rw [ByteArray.toList_eq]; exact h0)]
  · have hpos : 0 < s.size := by
      rw [← size_len]
      exact List.length_pos_iff.2 h0
    have hhd : s.data.toList.head? = some (s.data.toList[0]'(by simpa using hpos)) := by
      rw [List.head?_eq_getElem?, List.getElem?_eq_getElem (by simpa using hpos)]
    have hb : bt s 0 = ((s.data.toList[0]'(by simpa using hpos)).toNat : Int) := bt_nat s 0 hpos
    generalize hc : s.data.toList[0]'(by simpa using hpos) = c at hhd hb
    have hf : ∀ k, ebbtideref04_Number.f k s = ebbtideref04_Number.j0 k s ((c.toNat : Int) == 45) := fun k => by
      simp only [ebbtideref04_Number.f]
      rw [if_neg (by rw [ByteArray.toList_eq]; exact h0), if_pos (by omega), hb]
    by_cases h45 : c = 45
    · subst h45
      rw [if_pos hhd]
      have htl : s.data.toList.tail = (s.extract 1 s.size).data.toList := by
        rw [Lib.extract_to_end, List.drop_one]
      rw [htl]
      refine Ev.congr hf ?_
      have hsz : (s.extract 1 s.size).size ≤ 4611686018427387904 := by
        rw [← size_len, ← htl, List.length_tail, size_len]
        omega
      refine Ev.step (f := fun k => ebbtideref04_Number.j1 k (s.extract 1 s.size) true) (fun k => ?_) (refNumber_j1 (s.extract 1 s.size) true hsz)
      show ebbtideref04_Number.j0 (k + 1) s true = _
      simp only [ebbtideref04_Number.j0]
      rw [if_pos trivial, if_pos (by omega)]
    · have hh : ¬ s.data.toList.head? = some 45 := by
        rw [hhd]
        exact fun e => h45 (Option.some.inj e)
      rw [if_neg hh]
      refine Ev.congr (f := fun k => ebbtideref04_Number.j0 k s false) (fun k => ?_) (hfalse hh)
      rw [hf]
      congr 1
      exact beq_eq_false_iff_ne.2 (fun e => h45 ((isByte _ 45 (by decide)).1 e))
end Go.Proofs.YtdjnnkfopgmpaaaDoor.PureWord
