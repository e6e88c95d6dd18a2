/- CountOn of the program and of the reference answer alike at every text. -/
import Derived.Test.YtnbinhbkgakllaaDoorHFnExactCountOnx1
namespace Go.Proofs.YtnbinhbkgakllaaDoor.Pure
open Go.RowKit Go.Proofs.YtnbinhbkgakllaaDoor.HFnExactCountOn Go.Proofs.YtnbinhbkgakllaaDoorW.PrintWords Go.Proofs.YtnbinhbkgakllaaDoorW.PrintLast
set_option linter.unusedVariables false
set_option linter.unusedSimpArgs false
set_option linter.unnecessarySimpa false

theorem wr {i : Int} (h0 : -9223372036854775808 ≤ i) (h1 : i ≤ 9223372036854775807) : wrap64 i = i := by unfold wrap64; omega
theorem rd_nat (xs : List Int) (i : Nat) : rd xs (i : Int) = xs.getD i 0 := by simp [rd]
theorem rd_get (xs : List Int) (i : Nat) (h : i < xs.length) : rd xs (i : Int) = xs[i] := by simp [rd, h]
theorem pred_of_lt {d k : Nat} (h : d < k) : ∃ m, k = m + 1 := ⟨k - 1, by omega⟩
/-! bytes of a text -/
theorem size_data (s : ByteArray) : s.data.toList.length = s.size := Array.length_toList
theorem bt_nat (s : ByteArray) (i : Nat) (h : i < s.size) : bt s (i : Int) = ((s.data.toList[i]'(by rw [size_data]; exact h)).toNat : Int) := by
  have := bt_at s (i : Int) (by simpa using h)
  rw [← this]
  rfl
theorem byte_num (b c : UInt8) (n : Nat) (hc : c.toNat = n) : ((b.toNat : Int) = (n : Int)) ↔ b = c := by
  constructor
  · intro h
    exact UInt8.toNat_inj.1 (by omega)
  · rintro rfl; omega
/-! what is left when bytes of a set are taken off both ends -/
theorem dropWhile_nil {p : UInt8 → Bool} (l : List UInt8) : l.dropWhile p = [] ↔ l.all p = true := by
  induction l with
  | nil => simp
  | cons a l ih =>
    rw [List.dropWhile_cons]
    by_cases h : p a = true
    · rw [if_pos h, ih]; simp [h]
    · rw [if_neg h]; simp [h]
theorem trimS_nil (l cs : List UInt8) : Lib.trimS l cs = [] ↔ l.all (cs.contains ·) = true := by
  unfold Lib.trimS Lib.trimLeftS Lib.trimRightS
  rw [dropWhile_nil]
  constructor
  · intro h
    by_cases hr : (l.reverse.dropWhile (cs.contains ·)) = []
    · rw [dropWhile_nil, List.all_reverse] at hr; exact hr
    · exfalso
      rw [List.all_reverse] at h
      cases hd : l.reverse.dropWhile (cs.contains ·) with
      | nil => exact hr hd
      | cons a t =>
        have ha : cs.contains a = false := by
          have := List.head?_dropWhile_not (cs.contains ·) l.reverse
          rw [hd] at this
          simpa using this
        rw [hd] at h
        simp at h
        rw [List.contains_eq_mem] at ha
        simp [h.1] at ha
  · intro h
    have : (l.reverse.dropWhile (cs.contains ·)) = [] := by
      rw [dropWhile_nil, List.all_reverse]; exact h
    rw [this]; rfl
theorem toList_nil (l : List UInt8) : ((⟨l.toArray⟩ : ByteArray).toList == ([] : List UInt8)) = l.isEmpty := by
  have : (⟨l.toArray⟩ : ByteArray).toList = l := by
    rw [ByteArray.toList_eq]
  rw [this]
  cases l <;> rfl
theorem l1In_eq (a b c : Int) : spec_l1In.f a b c = some (decide (b ≤ a) && decide (a ≤ c)) := by
  unfold spec_l1In.f
  by_cases h : a ≥ b
  · rw [if_pos h]; simp [show b ≤ a from h]
  · rw [if_neg h]; simp [show ¬ b ≤ a from h]
/-! a line, as both sides ask for it -/
def onOff (b : UInt8) : Bool := b == 48 || b == 49
def isLn (s : ByteArray) : Bool := decide (s.size ≤ 200) && s.data.toList.all onOff
theorem bt_is (s : ByteArray) (i : Nat) (h : i < s.size) (c : UInt8) (n : Int) (hc : (c.toNat : Int) = n) : (bt s (i : Int) = n) ↔ (s.data.toList[i]'(by rw [size_data]; exact h)) = c := by
  rw [bt_nat s i h, ← hc]
  constructor
  · intro e; exact UInt8.toNat_inj.1 (by omega)
  · intro e; rw [e]
theorem l4Line_l0 (s : ByteArray) (hs : s.size ≤ 1048576) (d : Nat) : ∀ (k i : Nat), i ≤ s.size → s.size - i = d → 2 * d + 1 < k → (s.data.toList.take i).all onOff = true → spec_l4Line.l0 k s (i : Int) = some (isLn s) := by
  have hsz := size_data s
  induction d with
  | zero =>
    intro k i hi hd hk ht
    obtain ⟨k, rfl⟩ := pred_of_lt hk
    obtain ⟨k, rfl⟩ : ∃ m, k = m + 1 := ⟨k - 1, by omega⟩
    simp only [spec_l4Line.l0]; rw [if_neg (by omega)]
    simp only [spec_l4Line.j1]; rw [if_neg (by simp)]
    rw [List.take_of_length_le (by omega)] at ht
    have : decide ((s.size : Int) ≤ 200) = decide (s.size ≤ 200) := by rw [decide_eq_decide]; omega
    rw [this]; simp [isLn, ht]
  | succ d ih =>
    intro k i hi hd hk ht
    obtain ⟨k, rfl⟩ := pred_of_lt hk
    obtain ⟨k, rfl⟩ : ∃ m, k = m + 1 := ⟨k - 1, by omega⟩
    have c1 : (i : Int) < (s.size : Int) := by omega
    have c2 : (0 : Int) ≤ (i : Int) := by omega
    have e : wrap64 ((i : Int) + 1) = ((i + 1 : Nat) : Int) := by rw [wr (by omega) (by omega)]; omega
    simp only [spec_l4Line.l0, c1, if_true, spec_l4Line.j1]
    by_cases h200 : (i : Int) ≤ 200
    · have hd2 : decide ((i : Int) ≤ 200) = true := by simpa using h200
      simp only [hd2, c2, if_true, e]
      have hlt : i < s.data.toList.length := by omega
      have next : onOff (s.data.toList[i]) = true → spec_l4Line.l0 k s ((i + 1 : Nat) : Int) = some (isLn s) := fun hb => ih k (i + 1) (by omega) (by omega) (by omega) (by
        rw [List.take_succ_eq_append_getElem hlt, List.all_append, ht]; simp only [List.all_cons, List.all_nil, hb, Bool.and_true])
      by_cases h0 : bt s (i : Int) = 48
      · rw [if_pos h0]
        exact next (by rw [bt_is s i (by omega) 48 48 (by decide)] at h0; rw [h0]; decide)
      · rw [if_neg h0]
        by_cases h1 : bt s (i : Int) = 49
        · rw [if_pos h1]
          exact next (by rw [bt_is s i (by omega) 49 49 (by decide)] at h1; rw [h1]; decide)
        · rw [if_neg h1]
          rw [bt_is s i (by omega) 48 48 (by decide)] at h0
          rw [bt_is s i (by omega) 49 49 (by decide)] at h1
          have hm : s.data.toList[i] ∈ s.data.toList := List.getElem_mem _
          have hf : s.data.toList.all onOff = false := by
            rw [List.all_eq_false]; exact ⟨_, hm, by simp only [onOff, Bool.or_eq_true, beq_iff_eq, h0, h1, or_self, not_false_eq_true]⟩
          simp [isLn, hf]
    · have hd2 : decide ((i : Int) ≤ 200) = false := by simpa using h200
      simp only [hd2, Bool.false_eq_true, if_false]
      have : decide ((s.size : Int) ≤ 200) = false := by simp; omega
      rw [this]
      simp [isLn, show ¬ s.size ≤ 200 by omega]
theorem l4Line_eq (s : ByteArray) (hs : s.size ≤ 1048576) (k : Nat) (hk : 2 * s.size + 1 < k) : spec_l4Line.f k s = some (isLn s) := by
  unfold spec_l4Line.f
  exact l4Line_l0 s hs s.size k 0 (by omega) (by omega) hk (by simp)
theorem implLine_eq (s : ByteArray) : impl_IsLine.f s = some (isLn s) := by
  unfold impl_IsLine.f
  by_cases h : (s.size : Int) ≤ 200
  · rw [if_pos h]
    unfold strings_Trim.f
    rw [if_pos (by omega), if_pos (by decide), if_pos (by decide)]
    simp only [Option.bind_some]
    rw [toList_nil]
    have e : (Lib.trimS s.data.toList [48, 49]).isEmpty = s.data.toList.all onOff := by
      rw [Bool.eq_iff_iff, List.isEmpty_iff, trimS_nil]
      have : (fun x => [48, 49].contains x) = onOff := by
        funext x
        simp [onOff, List.contains_eq_mem]
        rfl
      rw [this]
    show some (Lib.trimS s.data.toList [48, 49]).isEmpty = _
    rw [e]
    simp [isLn, show s.size ≤ 200 by omega]
  · rw [if_neg h]; simp [isLn, show ¬ s.size ≤ 200 by omega]
def onB (s : ByteArray) (i : Int) : Bool := (decide (0 ≤ i) && decide (i ≤ (s.size : Int) - 1)) && (bt s i == 49)
theorem l4On_eq (s : ByteArray) (hs : s.size ≤ 1048576) (i : Int) : spec_l4On.f s i = some (onB s i) := by
  unfold spec_l4On.f
  rw [l1In_eq, wr (by omega) (by omega)]
  simp only [Option.bind_some]
  by_cases h : (decide (0 ≤ i) && decide (i ≤ (s.size : Int) - 1)) = true
  · rw [if_pos h]
    simp only [Bool.and_eq_true, decide_eq_true_eq] at h
    rw [if_pos h.1, if_pos (by omega)]
    simp [onB, h.1, h.2]
  · rw [if_neg h]
    have h' := (Bool.not_eq_true _).mp h
    simp only [onB, h', Bool.false_and]
theorem count_l0 (s : ByteArray) (hs : s.size ≤ 1048576) (d : Nat) : ∀ (k i : Nat), i ≤ s.size → s.size - i = d → d < k →
    spec_CountOn.l0 k s (((s.data.toList.take i).count 49 : Nat) : Int) (i : Int) = some (((s.data.toList.count 49 : Nat) : Int), true) := by
  have hsz := size_data s
  induction d with
  | zero =>
    intro k i hi hd hk
    obtain ⟨k, rfl⟩ := pred_of_lt hk
    simp only [spec_CountOn.l0]
    rw [if_neg (by omega), List.take_of_length_le (by omega)]
  | succ d ih =>
    intro k i hi hd hk
    obtain ⟨k, rfl⟩ := pred_of_lt hk
    have c1 : (i : Int) < (s.size : Int) := by omega
    have hlt : i < s.data.toList.length := by omega
    have hc : (s.data.toList.take i).count 49 ≤ i := Nat.le_trans List.count_le_length (List.length_take_le _ _)
    have e1 : wrap64 ((i : Int) + 1) = ((i + 1 : Nat) : Int) := by rw [wr (by omega) (by omega)]; omega
    have e3 : wrap64 ((((s.data.toList.take i).count 49 : Nat) : Int) + 1) = (((s.data.toList.take i).count 49 + 1 : Nat) : Int) := by rw [wr (by omega) (by omega)]; omega
    have next := ih k (i + 1) (by omega) (by omega) (by omega)
    rw [List.take_succ_eq_append_getElem hlt, List.count_append, List.count_singleton] at next
    simp only [spec_CountOn.l0, c1, if_true, l4On_eq s hs, Option.bind_some, e1, e3]
    have hon : onB s (i : Int) = (s.data.toList[i] == 49) := by
      have h1 := bt_is s i (by omega) 49 49 (by decide)
      have e : (bt s (i : Int) == 49) = (s.data.toList[i] == 49) := by
        rw [Bool.eq_iff_iff]; simpa using h1
      have h0 : (decide (0 ≤ (i : Int)) && decide ((i : Int) ≤ (s.size : Int) - 1)) = true := by
        simp only [Bool.and_eq_true, decide_eq_true_eq]; omega
      unfold onB
      rw [h0, e, Bool.true_and]
    rw [hon]
    by_cases hb : (s.data.toList[i] == 49) = true
    · rw [if_pos hb]
      rw [if_pos hb] at next
      exact next
    · rw [if_neg hb]
      rw [if_neg hb] at next
      exact next
theorem FnExactCountOn : laws_FnExactCountOn.Pure := by
  intro s _
  by_cases h : (s.size : Int) > 1048576
  · refine ⟨0, ?_⟩
    unfold laws_FnExactCountOn.f
    rw [if_pos h]
  · refine ⟨2 * s.size + 2, ?_⟩
    have hc := count_l0 s (by omega) s.size (2 * s.size + 2) 0 (by omega) (by omega) (by omega)
    unfold laws_FnExactCountOn.f spec_CountOn.f impl_CountOn.f strings_Count.f
    rw [if_neg h, l4Line_eq s (by omega) _ (by omega), implLine_eq]
    simp only [Option.bind_some]
    by_cases hl : isLn s = true
    · simp only [hl, if_true]
      simp only [List.take_zero, List.count_nil, Int.natCast_zero] at hc
      rw [hc]
      simp [Lib.countByte]
    · simp [hl]

end Go.Proofs.YtnbinhbkgakllaaDoor.Pure
