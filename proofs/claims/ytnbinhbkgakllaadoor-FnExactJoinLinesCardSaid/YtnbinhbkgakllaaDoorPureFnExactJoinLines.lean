/- JoinLines of the program and of the reference answer alike at every two texts. -/
import Derived.Test.YtnbinhbkgakllaaDoorHFnExactJoinLinesx2
namespace Go.Proofs.YtnbinhbkgakllaaDoor.Pure
open Go.RowKit Go.Proofs.YtnbinhbkgakllaaDoor.HFnExactJoinLines Go.Proofs.YtnbinhbkgakllaaDoorW.PrintWords Go.Proofs.YtnbinhbkgakllaaDoorW.PrintLast
set_option linter.unusedVariables false
set_option linter.unusedSimpArgs false
set_option linter.unnecessarySimpa false

theorem wr {i : Int} (h0 : -9223372036854775808 ≤ i) (h1 : i ≤ 9223372036854775807) : wrap64 i = i := by unfold wrap64; omega
theorem rd_nat (xs : List Int) (i : Nat) : rd xs (i : Int) = xs.getD i 0 := by simp [rd]
theorem rd_get (xs : List Int) (i : Nat) (h : i < xs.length) : rd xs (i : Int) = xs[i] := by simp [rd, h]
theorem pred_of_lt {d k : Nat} (h : d < k) : ∃ m, k = m + 1 := ⟨k - 1, by omega⟩
/-! bytes of a text -/
theorem size_data (s : ByteArray) : s.data.toList.length = s.size := Array.length_toList
theorem bt_nat (s : ByteArray) (i : Nat) (h : i < s.size) : bt s (i : Int) = ((s.data.toList[i]'(by rw [size_data]; exact h)).toNat : Int) := by
  have := bt_at s (i : Int) (by simpa using h)
  rw [← this]
  rfl
theorem byte_num (b c : UInt8) (n : Nat) (hc : c.toNat = n) : ((b.toNat : Int) = (n : Int)) ↔ b = c := by
  constructor
  · intro h
    exact UInt8.toNat_inj.1 (by omega)
  · rintro rfl; omega
/-! what is left when bytes of a set are taken off both ends -/
theorem dropWhile_nil {p : UInt8 → Bool} (l : List UInt8) : l.dropWhile p = [] ↔ l.all p = true := by
  induction l with
  | nil => simp
  | cons a l ih =>
    rw [List.dropWhile_cons]
    by_cases h : p a = true
    · rw [if_pos h, ih]; simp [h]
    · rw [if_neg h]; simp [h]
theorem trimS_nil (l cs : List UInt8) : Lib.trimS l cs = [] ↔ l.all (cs.contains ·) = true := by
  unfold Lib.trimS Lib.trimLeftS Lib.trimRightS
  rw [dropWhile_nil]
  constructor
  · intro h
    by_cases hr : (l.reverse.dropWhile (cs.contains ·)) = []
    · rw [dropWhile_nil, List.all_reverse] at hr; exact hr
    · exfalso
      rw [List.all_reverse] at h
      cases hd : l.reverse.dropWhile (cs.contains ·) with
      | nil => exact hr hd
      | cons a t =>
        have ha : cs.contains a = false := by
          have := List.head?_dropWhile_not (cs.contains ·) l.reverse
          rw [hd] at this
          simpa using this
        rw [hd] at h
        simp at h
        rw [List.contains_eq_mem] at ha
        simp [h.1] at ha
  · intro h
    have : (l.reverse.dropWhile (cs.contains ·)) = [] := by
      rw [dropWhile_nil, List.all_reverse]; exact h
    rw [this]; rfl
theorem toList_nil (l : List UInt8) : ((⟨l.toArray⟩ : ByteArray).toList == ([] : List UInt8)) = l.isEmpty := by
  have : (⟨l.toArray⟩ : ByteArray).toList = l := by
    rw [ByteArray.toList_eq]
  rw [this]
  cases l <;> rfl
theorem l1In_eq (a b c : Int) : spec_l1In.f a b c = some (decide (b ≤ a) && decide (a ≤ c)) := by
  unfold spec_l1In.f
  by_cases h : a ≥ b
  · rw [if_pos h]; simp [show b ≤ a from h]
  · rw [if_neg h]; simp [show ¬ b ≤ a from h]
/-! a line, as both sides ask for it -/
def onOff (b : UInt8) : Bool := b == 48 || b == 49
def isLn (s : ByteArray) : Bool := decide (s.size ≤ 200) && s.data.toList.all onOff
theorem bt_is (s : ByteArray) (i : Nat) (h : i < s.size) (c : UInt8) (n : Int) (hc : (c.toNat : Int) = n) : (bt s (i : Int) = n) ↔ (s.data.toList[i]'(by rw [size_data]; exact h)) = c := by
  rw [bt_nat s i h, ← hc]
  constructor
  · intro e; exact UInt8.toNat_inj.1 (by omega)
  · intro e; rw [e]
theorem l4Line_l0 (s : ByteArray) (hs : s.size ≤ 1048576) (d : Nat) : ∀ (k i : Nat), i ≤ s.size → s.size - i = d → 2 * d + 1 < k → (s.data.toList.take i).all onOff = true → spec_l4Line.l0 k s (i : Int) = some (isLn s) := by
  have hsz := size_data s
  induction d with
  | zero =>
    intro k i hi hd hk ht
    obtain ⟨k, rfl⟩ := pred_of_lt hk
    obtain ⟨k, rfl⟩ : ∃ m, k = m + 1 := ⟨k - 1, by omega⟩
    simp only [spec_l4Line.l0]; rw [if_neg (by omega)]
    simp only [spec_l4Line.j1]; rw [if_neg (by simp)]
    rw [List.take_of_length_le (by omega)] at ht
    have : decide ((s.size : Int) ≤ 200) = decide (s.size ≤ 200) := by rw [decide_eq_decide]; omega
    rw [this]; simp [isLn, ht]
  | succ d ih =>
    intro k i hi hd hk ht
    obtain ⟨k, rfl⟩ := pred_of_lt hk
    obtain ⟨k, rfl⟩ : ∃ m, k = m + 1 := ⟨k - 1, by omega⟩
    have c1 : (i : Int) < (s.size : Int) := by omega
    have c2 : (0 : Int) ≤ (i : Int) := by omega
    have e : wrap64 ((i : Int) + 1) = ((i + 1 : Nat) : Int) := by rw [wr (by omega) (by omega)]; omega
    simp only [spec_l4Line.l0, c1, if_true, spec_l4Line.j1]
    by_cases h200 : (i : Int) ≤ 200
    · have hd2 : decide ((i : Int) ≤ 200) = true := by simpa using h200
      simp only [hd2, c2, if_true, e]
      have hlt : i < s.data.toList.length := by omega
      have next : onOff (s.data.toList[i]) = true → spec_l4Line.l0 k s ((i + 1 : Nat) : Int) = some (isLn s) := fun hb => ih k (i + 1) (by omega) (by omega) (by omega) (by
        rw [List.take_succ_eq_append_getElem hlt, List.all_append, ht]; simp only [List.all_cons, List.all_nil, hb, Bool.and_true])
      by_cases h0 : bt s (i : Int) = 48
      · rw [if_pos h0]
        exact next (by rw [bt_is s i (by omega) 48 48 (by decide)] at h0; rw [h0]; decide)
      · rw [if_neg h0]
        by_cases h1 : bt s (i : Int) = 49
        · rw [if_pos h1]
          exact next (by rw [bt_is s i (by omega) 49 49 (by decide)] at h1; rw [h1]; decide)
        · rw [if_neg h1]
          rw [bt_is s i (by omega) 48 48 (by decide)] at h0
          rw [bt_is s i (by omega) 49 49 (by decide)] at h1
          have hm : s.data.toList[i] ∈ s.data.toList := List.getElem_mem _
          have hf : s.data.toList.all onOff = false := by
            rw [List.all_eq_false]; exact ⟨_, hm, by simp only [onOff, Bool.or_eq_true, beq_iff_eq, h0, h1, or_self, not_false_eq_true]⟩
          simp [isLn, hf]
    · have hd2 : decide ((i : Int) ≤ 200) = false := by simpa using h200
      simp only [hd2, Bool.false_eq_true, if_false]
      have : decide ((s.size : Int) ≤ 200) = false := by simp; omega
      rw [this]
      simp [isLn, show ¬ s.size ≤ 200 by omega]
theorem l4Line_eq (s : ByteArray) (hs : s.size ≤ 1048576) (k : Nat) (hk : 2 * s.size + 1 < k) : spec_l4Line.f k s = some (isLn s) := by
  unfold spec_l4Line.f
  exact l4Line_l0 s hs s.size k 0 (by omega) (by omega) hk (by simp)
theorem implLine_eq (s : ByteArray) : impl_IsLine.f s = some (isLn s) := by
  unfold impl_IsLine.f
  by_cases h : (s.size : Int) ≤ 200
  · rw [if_pos h]
    unfold strings_Trim.f
    rw [if_pos (by omega), if_pos (by decide), if_pos (by decide)]
    simp only [Option.bind_some]
    rw [toList_nil]
    have e : (Lib.trimS s.data.toList [48, 49]).isEmpty = s.data.toList.all onOff := by
      rw [Bool.eq_iff_iff, List.isEmpty_iff, trimS_nil]
      have : (fun x => [48, 49].contains x) = onOff := by
        funext x
        simp [onOff, List.contains_eq_mem]
        rfl
      rw [this]
    show some (Lib.trimS s.data.toList [48, 49]).isEmpty = _
    rw [e]
    simp [isLn, show s.size ≤ 200 by omega]
  · rw [if_neg h]; simp [isLn, show ¬ s.size ≤ 200 by omega]
/-! is a unit on: as both sides ask it -/
def onB (s : ByteArray) (i : Int) : Bool := (decide (0 ≤ i) && decide (i ≤ (s.size : Int) - 1)) && (bt s i == 49)
theorem in_eq (a b c : Int) : impl_in.f a b c = some (decide (b ≤ a) && decide (a ≤ c)) := by
  unfold impl_in.f
  by_cases h : a ≥ b
  · rw [if_pos h]; simp [show b ≤ a from h]
  · rw [if_neg h]; simp [show ¬ b ≤ a from h]
theorem l4On_eq (s : ByteArray) (hs : s.size ≤ 1048576) (i : Int) : spec_l4On.f s i = some (onB s i) := by
  unfold spec_l4On.f
  rw [l1In_eq, wr (by omega) (by omega)]
  simp only [Option.bind_some]
  by_cases h : (decide (0 ≤ i) && decide (i ≤ (s.size : Int) - 1)) = true
  · rw [if_pos h]
    simp only [Bool.and_eq_true, decide_eq_true_eq] at h
    rw [if_pos h.1, if_pos (by omega)]
    simp [onB, h.1, h.2]
  · rw [if_neg h]
    have h' := (Bool.not_eq_true _).mp h
    simp only [onB, h', Bool.false_and]
theorem isOn_eq (s : ByteArray) (hs : s.size ≤ 1048576) (i : Int) : impl_isOn.f s i = some (onB s i) := by
  unfold impl_isOn.f
  rw [in_eq, wr (by omega) (by omega)]
  simp only [Option.bind_some]
  by_cases h : (decide (0 ≤ i) && decide (i ≤ (s.size : Int) - 1)) = true
  · rw [if_pos h]
    simp only [Bool.and_eq_true, decide_eq_true_eq] at h
    rw [if_pos h.1, if_pos (by omega)]
    simp [onB, h.1, h.2]
  · rw [if_neg h]
    have h' := (Bool.not_eq_true _).mp h
    simp only [onB, h', Bool.false_and]
theorem onB_neg (s : ByteArray) (i : Int) (h : i < 0) : onB s i = false := by simp [onB, show ¬ 0 ≤ i by omega]
theorem onB_far (s : ByteArray) (i : Int) (h : (s.size : Int) ≤ i) : onB s i = false := by simp [onB, show ¬ i ≤ (s.size : Int) - 1 by omega]
/-! a text as a list of bytes, and as a list of numbers -/
def txt (l : List UInt8) : ByteArray := ⟨l.toArray⟩
def numsOf (l : List UInt8) : List Int := l.map fun b => (b.toNat : Int)
theorem txt_data (l : List UInt8) : (txt l).data.toList = l := rfl
theorem txt_size (l : List UInt8) : (txt l).size = l.length := by rw [← size_data, txt_data]
theorem txt_of (s : ByteArray) : txt s.data.toList = s := rfl
theorem txt_app (l m : List UInt8) : txt l ++ txt m = txt (l ++ m) := by
  apply ByteArray.ext
  apply Array.toList_inj.1
  rw [ByteArray.data_append, Array.toList_append]
  rfl
theorem strOf_nums (l : List UInt8) : strOfNums (numsOf l) = txt l := by
  unfold strOfNums numsOf txt
  rw [List.map_map]
  congr 2
  rw [List.map_congr_left (g := id)]
  · simp
  · intro b _
    simp
theorem nums_app (l : List UInt8) (b : UInt8) (n : Int) (h : (b.toNat : Int) = n) : numsOf l ++ [n] = numsOf (l ++ [b]) := by
  simp [numsOf, h]
theorem nums_len (l : List UInt8) : (numsOf l).length = l.length := by simp [numsOf]
theorem most_eq (a b : Int) : spec_l1Most.f a b = some (max a b) := by
  unfold spec_l1Most.f
  by_cases h : a > b
  · rw [if_pos h, show max a b = a by omega]
  · rw [if_neg h, show max a b = b by omega]
def jB (a b : ByteArray) (i : Nat) : UInt8 := if (onB a (i : Int) || onB b (i : Int)) = true then 49 else 48
def jL (a b : ByteArray) (n : Nat) : List UInt8 := (List.range n).map (jB a b)
theorem jL_len (a b : ByteArray) (n : Nat) : (jL a b n).length = n := by simp [jL]
theorem jL_succ (a b : ByteArray) (n : Nat) : jL a b (n + 1) = jL a b n ++ [jB a b n] := by simp [jL, List.range_succ]
theorem loops (a b : ByteArray) (ha : a.size ≤ 1048576) (hb : b.size ≤ 1048576) (M : Nat) (hM : (M : Int) = max (a.size : Int) (b.size : Int)) (d : Nat) : ∀ (k i : Nat), i ≤ M → M - i = d → d < k →
    spec_JoinLines.l0 k a b (txt (jL a b i)) (i : Int) = some (txt (jL a b M), true) ∧ impl_JoinLines.l0 k a b (numsOf (jL a b i)) (M : Int) (i : Int) = some (txt (jL a b M), true) := by
  have hM2 : M ≤ 1048576 := by omega
  induction d with
  | zero =>
    intro k i hi hd hk
    obtain ⟨k, rfl⟩ := pred_of_lt hk
    simp only [spec_JoinLines.l0, impl_JoinLines.l0, most_eq, Option.bind_some]
    rw [if_neg (by omega), if_neg (by omega), strOf_nums, show i = M by omega]
    exact ⟨rfl, rfl⟩
  | succ d ih =>
    intro k i hi hd hk
    obtain ⟨k, rfl⟩ := pred_of_lt hk
    have c1 : (i : Int) < max (a.size : Int) (b.size : Int) := by omega
    have c2 : (i : Int) < (M : Int) := by omega
    have e1 : wrap64 ((i : Int) + 1) = ((i + 1 : Nat) : Int) := by rw [wr (by omega) (by omega)]; omega
    have l1 : (txt (jL a b i)).size + 1 ≤ 9223372036854775807 := by rw [txt_size, jL_len]; omega
    have l2 : (numsOf (jL a b i)).length < 140737488355328 := by rw [nums_len, jL_len]; omega
    have t1 : ∀ c : UInt8, (⟨#[c]⟩ : ByteArray) = txt [c] := fun _ => rfl
    have next := ih k (i + 1) (by omega) (by omega) (by omega)
    rw [jL_succ] at next
    simp only [spec_JoinLines.l0, impl_JoinLines.l0, most_eq, Option.bind_some, c1, c2, if_true, l4On_eq a ha, l4On_eq b hb, isOn_eq a ha, isOn_eq b hb, l1, l2, e1, t1, txt_app]
    rw [nums_app _ 49 49 (by decide), nums_app _ 48 48 (by decide)]
    by_cases h1 : onB a (i : Int) = true
    · have : jB a b i = 49 := by simp [jB, h1]
      rw [this] at next
      simp only [h1, if_true]
      exact next
    · by_cases h2 : onB b (i : Int) = true
      · have : jB a b i = 49 := by simp [jB, h2]
        rw [this] at next
        simp only [h1, h2, if_true, Bool.false_eq_true, if_false]
        exact next
      · have : jB a b i = 48 := by simp [jB, h1, h2]
        rw [this] at next
        simp only [h1, h2, Bool.false_eq_true, if_false]
        exact next
theorem both (a b : ByteArray) (ha : a.size ≤ 1048576) (hb : b.size ≤ 1048576) : ∃ (r : ByteArray) (o : Bool), ∀ k, 2 * a.size + 2 * b.size + 10 ≤ k → spec_JoinLines.f k a b = some (r, o) ∧ impl_JoinLines.f k a b = some (r, o) := by
  have off : ∀ k, 0 < k → spec_JoinLines.j0 k a b true = some (⟨#[]⟩, false) ∧ impl_JoinLines.j0 k a b true = some (⟨#[]⟩, false) := by
    intro k hk
    obtain ⟨k, rfl⟩ := pred_of_lt hk
    simp only [spec_JoinLines.j0, impl_JoinLines.j0, if_true]
    exact ⟨trivial, trivial⟩
  by_cases la : isLn a = true
  · by_cases lb : isLn b = true
    · obtain ⟨M, hM⟩ : ∃ M : Nat, (M : Int) = max (a.size : Int) (b.size : Int) := ⟨max a.size b.size, by omega⟩
      refine ⟨txt (jL a b M), true, fun k hk => ?_⟩
      have hl := loops a b ha hb M hM M (k - 1) 0 (by omega) (by omega) (by omega)
      obtain ⟨k, rfl⟩ : ∃ m, k = m + 1 := ⟨k - 1, by omega⟩
      unfold spec_JoinLines.f impl_JoinLines.f
      rw [l4Line_eq a ha _ (by omega), l4Line_eq b hb _ (by omega), implLine_eq, implLine_eq]
      simp only [Option.bind_some, la, lb, if_true, Bool.not_true, spec_JoinLines.j0, impl_JoinLines.j0, Bool.false_eq_true, if_false]
      refine ⟨hl.1, ?_⟩
      have h2 := hl.2
      by_cases hc : (a.size : Int) < (b.size : Int)
      · rw [if_pos hc]
        rw [show (M : Int) = (b.size : Int) by omega] at h2
        exact h2
      · rw [if_neg hc]
        rw [show (M : Int) = (a.size : Int) by omega] at h2
        exact h2
    · refine ⟨⟨#[]⟩, false, fun k hk => ?_⟩
      unfold spec_JoinLines.f impl_JoinLines.f
      rw [l4Line_eq a ha _ (by omega), l4Line_eq b hb _ (by omega), implLine_eq, implLine_eq, la, (Bool.not_eq_true _).mp lb]
      simp only [Option.bind_some, if_true, Bool.not_false]
      exact off k (by omega)
  · refine ⟨⟨#[]⟩, false, fun k hk => ?_⟩
    unfold spec_JoinLines.f impl_JoinLines.f
    rw [l4Line_eq a ha _ (by omega), implLine_eq, (Bool.not_eq_true _).mp la]
    simp only [Option.bind_some, Bool.false_eq_true, if_false]
    exact off k (by omega)
theorem FnExactJoinLines : laws_FnExactJoinLines.Pure := by
  intro a b _ _
  by_cases h : (a.size : Int) > 1048576
  · refine ⟨0, ?_⟩
    unfold laws_FnExactJoinLines.f
    rw [if_pos h]
  · by_cases h2 : (b.size : Int) > 1048576
    · refine ⟨0, ?_⟩
      unfold laws_FnExactJoinLines.f
      rw [if_neg h, if_pos h2]
    · obtain ⟨r, o, hr⟩ := both a b (by omega) (by omega)
      refine ⟨2 * a.size + 2 * b.size + 10, ?_⟩
      have hk := hr (2 * a.size + 2 * b.size + 10) (by omega)
      unfold laws_FnExactJoinLines.f
      rw [if_neg h, if_neg h2, hk.1, hk.2]
      simp

end Go.Proofs.YtnbinhbkgakllaaDoor.Pure
