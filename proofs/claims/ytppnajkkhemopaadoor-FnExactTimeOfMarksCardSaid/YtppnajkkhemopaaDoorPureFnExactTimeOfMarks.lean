/- TimeOfMarks of the program and of the reference answer alike at every text. -/
import Derived.Test.YtppnajkkhemopaaDoorHFnExactTimeOfMarksx1
namespace Go.Proofs.YtppnajkkhemopaaDoor.Pure
open Go.RowKit Go.Proofs.YtppnajkkhemopaaDoor.HFnExactTimeOfMarks Go.Proofs.YtppnajkkhemopaaDoorW.PrintWords Go.Proofs.YtppnajkkhemopaaDoorW.PrintLast
set_option linter.unusedVariables false
set_option linter.unusedSimpArgs false
set_option linter.unnecessarySimpa false

theorem wr {i : Int} (h0 : -9223372036854775808 ≤ i) (h1 : i ≤ 9223372036854775807) : wrap64 i = i := by unfold wrap64; omega
theorem rd_nat (xs : List Int) (i : Nat) : rd xs (i : Int) = xs.getD i 0 := by simp [rd]
theorem rd_get (xs : List Int) (i : Nat) (h : i < xs.length) : rd xs (i : Int) = xs[i] := by simp [rd, h]
theorem pred_of_lt {d k : Nat} (h : d < k) : ∃ m, k = m + 1 := ⟨k - 1, by omega⟩
/-! bytes of a text -/
theorem size_data (s : ByteArray) : s.data.toList.length = s.size := Array.length_toList
theorem bt_nat (s : ByteArray) (i : Nat) (h : i < s.size) : bt s (i : Int) = ((s.data.toList[i]'(by rw [size_data]; exact h)).toNat : Int) := by
  have := bt_at s (i : Int) (by simpa using h)
  rw [← this]
  rfl
theorem byte_num (b c : UInt8) (n : Nat) (hc : c.toNat = n) : ((b.toNat : Int) = (n : Int)) ↔ b = c := by
  constructor
  · intro h
    exact UInt8.toNat_inj.1 (by omega)
  · rintro rfl; omega
/-! what is left when bytes of a set are taken off both ends -/
theorem dropWhile_nil {p : UInt8 → Bool} (l : List UInt8) : l.dropWhile p = [] ↔ l.all p = true := by
  induction l with
  | nil => simp
  | cons a l ih =>
    rw [List.dropWhile_cons]
    by_cases h : p a = true
    · rw [if_pos h, ih]; simp [h]
    · rw [if_neg h]; simp [h]
theorem trimS_nil (l cs : List UInt8) : Lib.trimS l cs = [] ↔ l.all (cs.contains ·) = true := by
  unfold Lib.trimS Lib.trimLeftS Lib.trimRightS
  rw [dropWhile_nil]
  constructor
  · intro h
    by_cases hr : (l.reverse.dropWhile (cs.contains ·)) = []
    · rw [dropWhile_nil, List.all_reverse] at hr; exact hr
    · exfalso
      rw [List.all_reverse] at h
      cases hd : l.reverse.dropWhile (cs.contains ·) with
      | nil => exact hr hd
      | cons a t =>
        have ha : cs.contains a = false := by
          have := List.head?_dropWhile_not (cs.contains ·) l.reverse
          rw [hd] at this
          simpa using this
        rw [hd] at h
        simp at h
        rw [List.contains_eq_mem] at ha
        simp [h.1] at ha
  · intro h
    have : (l.reverse.dropWhile (cs.contains ·)) = [] := by
      rw [dropWhile_nil, List.all_reverse]; exact h
    rw [this]; rfl
theorem toList_nil (l : List UInt8) : ((⟨l.toArray⟩ : ByteArray).toList == ([] : List UInt8)) = l.isEmpty := by
  have : (⟨l.toArray⟩ : ByteArray).toList = l := by
    rw [ByteArray.toList_eq]
  rw [this]
  cases l <;> rfl
theorem l1In_eq (a b c : Int) : spec_l1In.f a b c = some (decide (b ≤ a) && decide (a ≤ c)) := by
  unfold spec_l1In.f
  by_cases h : a ≥ b
  · rw [if_pos h]; simp [show b ≤ a from h]
  · rw [if_neg h]; simp [show ¬ b ≤ a from h]
theorem in_eq (a b c : Int) : impl_in.f a b c = some (decide (b ≤ a) && decide (a ≤ c)) := by
  unfold impl_in.f
  by_cases h : a ≥ b
  · rw [if_pos h]; simp [show b ≤ a from h]
  · rw [if_neg h]; simp [show ¬ b ≤ a from h]
/-! marks, as both sides ask for them -/
def dotDash (b : UInt8) : Bool := b == 46 || b == 45
def isMk (s : ByteArray) (lo hi : Int) : Bool := (decide (lo ≤ (s.size : Int)) && decide ((s.size : Int) ≤ hi)) && s.data.toList.all dotDash
theorem bt_is (s : ByteArray) (i : Nat) (h : i < s.size) (c : UInt8) (n : Int) (hc : (c.toNat : Int) = n) : (bt s (i : Int) = n) ↔ (s.data.toList[i]'(by rw [size_data]; exact h)) = c := by
  rw [bt_nat s i h, ← hc]
  constructor
  · intro e; exact UInt8.toNat_inj.1 (by omega)
  · intro e; rw [e]
theorem l2Marks_l0 (s : ByteArray) (hs : s.size ≤ 1048576) (lo hi : Int) (d : Nat) : ∀ (k i : Nat), i ≤ s.size → s.size - i = d → 2 * d + 1 < k → (s.data.toList.take i).all dotDash = true → spec_l2Marks.l0 k s lo hi (i : Int) = some (isMk s lo hi) := by
  have hsz := size_data s
  induction d with
  | zero =>
    intro k i hi' hd hk ht
    obtain ⟨k, rfl⟩ := pred_of_lt hk
    obtain ⟨k, rfl⟩ : ∃ m, k = m + 1 := ⟨k - 1, by omega⟩
    simp only [spec_l2Marks.l0]; rw [if_neg (by omega)]
    simp only [spec_l2Marks.j1]; rw [if_neg (by simp), l1In_eq]
    rw [List.take_of_length_le (by omega)] at ht
    simp only [Option.bind_some, isMk, ht, Bool.and_true]
  | succ d ih =>
    intro k i hi' hd hk ht
    obtain ⟨k, rfl⟩ := pred_of_lt hk
    obtain ⟨k, rfl⟩ : ∃ m, k = m + 1 := ⟨k - 1, by omega⟩
    have c1 : (i : Int) < (s.size : Int) := by omega
    have c2 : (0 : Int) ≤ (i : Int) := by omega
    have e : wrap64 ((i : Int) + 1) = ((i + 1 : Nat) : Int) := by rw [wr (by omega) (by omega)]; omega
    simp only [spec_l2Marks.l0, c1, if_true, spec_l2Marks.j1]
    by_cases h200 : (i : Int) ≤ hi
    · have hd2 : decide ((i : Int) ≤ hi) = true := by simpa using h200
      simp only [hd2, c2, if_true, e]
      have hlt : i < s.data.toList.length := by omega
      have next : dotDash (s.data.toList[i]) = true → spec_l2Marks.l0 k s lo hi ((i + 1 : Nat) : Int) = some (isMk s lo hi) := fun hb => ih k (i + 1) (by omega) (by omega) (by omega) (by
        rw [List.take_succ_eq_append_getElem hlt, List.all_append, ht]; simp only [List.all_cons, List.all_nil, hb, Bool.and_true])
      by_cases h0 : bt s (i : Int) = 46
      · rw [if_pos h0]
        exact next (by rw [bt_is s i (by omega) 46 46 (by decide)] at h0; rw [h0]; decide)
      · rw [if_neg h0]
        by_cases h1 : bt s (i : Int) = 45
        · rw [if_pos h1]
          exact next (by rw [bt_is s i (by omega) 45 45 (by decide)] at h1; rw [h1]; decide)
        · rw [if_neg h1]
          rw [bt_is s i (by omega) 46 46 (by decide)] at h0
          rw [bt_is s i (by omega) 45 45 (by decide)] at h1
          have hm : s.data.toList[i] ∈ s.data.toList := List.getElem_mem _
          have hf : s.data.toList.all dotDash = false := by
            rw [List.all_eq_false]; exact ⟨_, hm, by simp only [dotDash, Bool.or_eq_true, beq_iff_eq, h0, h1, or_self, not_false_eq_true]⟩
          simp only [isMk, hf, Bool.and_false]
    · have hd2 : decide ((i : Int) ≤ hi) = false := by simpa using h200
      simp only [hd2, Bool.false_eq_true, if_false]
      have hn : decide ((s.size : Int) ≤ hi) = false := by simp; omega
      rw [l1In_eq]
      simp only [Option.bind_some, isMk, hn, Bool.and_false, Bool.false_and]
theorem l2Marks_eq (s : ByteArray) (hs : s.size ≤ 1048576) (lo hi : Int) (k : Nat) (hk : 2 * s.size + 1 < k) : spec_l2Marks.f k s lo hi = some (isMk s lo hi) := by
  unfold spec_l2Marks.f
  exact l2Marks_l0 s hs lo hi s.size k 0 (by omega) (by omega) hk (by simp)
theorem areMarks_eq (s : ByteArray) (hs : s.size ≤ 1048576) (lo hi : Int) : impl_areMarks.f s lo hi = some (isMk s lo hi) := by
  unfold impl_areMarks.f
  rw [in_eq]
  simp only [Option.bind_some]
  by_cases h : (decide (lo ≤ (s.size : Int)) && decide ((s.size : Int) ≤ hi)) = true
  · rw [if_pos h]
    unfold strings_Trim.f
    rw [if_pos (by omega), if_pos (by decide), if_pos (by decide)]
    simp only [Option.bind_some]
    rw [toList_nil]
    have e : (Lib.trimS s.data.toList [46, 45]).isEmpty = s.data.toList.all dotDash := by
      rw [Bool.eq_iff_iff, List.isEmpty_iff, trimS_nil]
      have : (fun x => [46, 45].contains x) = dotDash := by
        funext x
        simp [dotDash, List.contains_eq_mem]
        rfl
      rw [this]
    show some (Lib.trimS s.data.toList [46, 45]).isEmpty = _
    rw [e]
    simp only [isMk, h, Bool.true_and]
  · rw [if_neg h]
    simp only [isMk, (Bool.not_eq_true _).mp h, Bool.false_and]
theorem in_eq' (a b c : Int) : impl_in.f a b c = some (decide (b ≤ a) && decide (a ≤ c)) := in_eq a b c
def dashes (s : ByteArray) (i : Nat) : Nat := (s.data.toList.take i).count 45
theorem dashes_succ (s : ByteArray) (i : Nat) (h : i < s.size) : dashes s (i + 1) = dashes s i + (if bt s (i : Int) = 45 then 1 else 0) := by
  have hsz := size_data s
  have hlt : i < s.data.toList.length := by omega
  unfold dashes
  rw [List.take_succ_eq_append_getElem hlt, List.count_append]
  by_cases h1 : bt s (i : Int) = 45
  · rw [if_pos h1]
    rw [bt_is s i (by omega) 45 45 (by decide)] at h1
    rw [h1]; rfl
  · rw [if_neg h1]
    rw [bt_is s i (by omega) 45 45 (by decide)] at h1
    rw [List.count_singleton, if_neg (by rw [beq_iff_eq]; exact h1)]
theorem dashes_le (s : ByteArray) (i : Nat) : dashes s i ≤ i := by
  unfold dashes
  exact Nat.le_trans List.count_le_length (by rw [List.length_take]; omega)
theorem l2Time_l0 (s : ByteArray) (hs : s.size ≤ 1048576) (d : Nat) (m : Int) (hm : 0 ≤ m ∧ m ≤ 1048576) : ∀ (k i : Nat), i ≤ s.size → s.size - i = d → d < k →
    spec_l2Time.l0 k s (m + (i : Int) + 2 * (dashes s i : Int)) (i : Int) = some (m + (s.size : Int) + 2 * (dashes s s.size : Int)) := by
  induction d with
  | zero =>
    intro k i hi hd hk
    obtain ⟨k, rfl⟩ := pred_of_lt hk
    simp only [spec_l2Time.l0]; rw [if_neg (by omega), show i = s.size by omega]
  | succ d ih =>
    intro k i hi hd hk
    obtain ⟨k, rfl⟩ := pred_of_lt hk
    have c1 : (i : Int) < (s.size : Int) := by omega
    have c2 : (0 : Int) ≤ (i : Int) := by omega
    have hle := dashes_le s i
    have e : wrap64 ((i : Int) + 1) = ((i + 1 : Nat) : Int) := by rw [wr (by omega) (by omega)]; omega
    have hs' := dashes_succ s i (by omega)
    have e2 : wrap64 (m + (i : Int) + 2 * (dashes s i : Int) + 1) = m + (i : Int) + 2 * (dashes s i : Int) + 1 := by rw [wr (by omega) (by omega)]
    have e3 : wrap64 (m + (i : Int) + 2 * (dashes s i : Int) + 1 + 2) = m + (i : Int) + 2 * (dashes s i : Int) + 1 + 2 := by rw [wr (by omega) (by omega)]
    have n := ih k (i + 1) (by omega) (by omega) (by omega)
    simp only [spec_l2Time.l0, c1, c2, if_true, e, e2, e3]
    by_cases h45 : bt s (i : Int) = 45
    · rw [if_pos h45] at hs' ⊢
      rw [← n]; congr 1; rw [hs']; omega
    · rw [if_neg h45] at hs' ⊢
      rw [← n]; congr 1; rw [hs']; omega
theorem l2Time_eq (s : ByteArray) (hs : s.size ≤ 1048576) (h1 : 1 ≤ s.size) (k : Nat) (hk : s.size < k) : spec_l2Time.f k s = some (2 * (s.size : Int) - 1 + 2 * (dashes s s.size : Int)) := by
  unfold spec_l2Time.f spec_l1Most.f
  rw [wr (by omega) (by omega)]
  have := l2Time_l0 s hs s.size ((s.size : Int) - 1) (by omega) k 0 (by omega) (by omega) hk
  simp only [dashes, List.take_zero, List.count_nil, Int.natCast_zero, Int.add_zero, Int.mul_zero] at this
  by_cases h : (0 : Int) > (s.size : Int) - 1
  · omega
  · rw [if_neg h]
    simp only [Option.bind_some]
    rw [this]; unfold dashes; congr 1; omega
theorem timeOf_eq (s : ByteArray) (hs : s.size ≤ 1048576) (h1 : 1 ≤ s.size) : impl_timeOf.f s = some (2 * (s.size : Int) - 1 + 2 * (dashes s s.size : Int)) := by
  unfold impl_timeOf.f strings_Count.f
  have hsz := size_data s
  have hle := dashes_le s s.size
  have e : Lib.countByte s.data.toList 45 = dashes s s.size := by
    unfold Lib.countByte dashes
    rw [List.take_of_length_le (by omega)]
  simp only [Option.bind_some, e]
  rw [wr (i := 2 * (s.size : Int)) (by omega) (by omega), wr (i := 2 * (s.size : Int) - 1) (by omega) (by omega), wr (i := 2 * (dashes s s.size : Int)) (by omega) (by omega), wr (by omega) (by omega)]
theorem FnExactTimeOfMarks : laws_FnExactTimeOfMarks.Pure := by
  intro a0 _
  by_cases hsz : (a0.size : Int) > 1048576
  · exact ⟨0, by unfold laws_FnExactTimeOfMarks.f; rw [if_pos hsz]⟩
  refine ⟨2 * a0.size + 2, ?_⟩
  unfold laws_FnExactTimeOfMarks.f
  rw [if_neg hsz]
  unfold spec_TimeOfMarks.f impl_TimeOfMarks.f impl_isLetterMarks.f
  rw [l2Marks_eq a0 (by omega) 1 5 _ (by omega), areMarks_eq a0 (by omega)]
  simp only [Option.bind_some]
  by_cases h : isMk a0 1 5 = true
  · have h1 : 1 ≤ a0.size := by
      simp only [isMk, Bool.and_eq_true, decide_eq_true_eq] at h
      omega
    simp only [h, if_true]
    rw [l2Time_eq a0 (by omega) h1 _ (by omega), timeOf_eq a0 (by omega) h1]
    simp
  · simp only [h, Bool.false_eq_true, if_false]
    simp

end Go.Proofs.YtppnajkkhemopaaDoor.Pure
