/- OnAtOnce of the program and of the reference answer alike at every list of lines. -/
import Derived.Test.YtnbinhbkgakllaaDoorHFnExactOnAtOncex4
namespace Go.Proofs.YtnbinhbkgakllaaDoor.Pure
open Go.RowKit Go.Proofs.YtnbinhbkgakllaaDoor.HFnExactOnAtOnce Go.Proofs.YtnbinhbkgakllaaDoorW.PrintWords Go.Proofs.YtnbinhbkgakllaaDoorW.PrintLast
set_option linter.unusedVariables false
set_option linter.unusedSimpArgs false
set_option linter.unnecessarySimpa false

theorem wr {i : Int} (h0 : -9223372036854775808 ≤ i) (h1 : i ≤ 9223372036854775807) : wrap64 i = i := by unfold wrap64; omega
theorem rd_nat (xs : List Int) (i : Nat) : rd xs (i : Int) = xs.getD i 0 := by simp [rd]
theorem rd_get (xs : List Int) (i : Nat) (h : i < xs.length) : rd xs (i : Int) = xs[i] := by simp [rd, h]
theorem pred_of_lt {d k : Nat} (h : d < k) : ∃ m, k = m + 1 := ⟨k - 1, by omega⟩
/-! bytes of a text -/
theorem size_data (s : ByteArray) : s.data.toList.length = s.size := Array.length_toList
theorem bt_nat (s : ByteArray) (i : Nat) (h : i < s.size) : bt s (i : Int) = ((s.data.toList[i]'(by rw [size_data]; exact h)).toNat : Int) := by
  have := bt_at s (i : Int) (by simpa using h)
  rw [← this]
  rfl
theorem byte_num (b c : UInt8) (n : Nat) (hc : c.toNat = n) : ((b.toNat : Int) = (n : Int)) ↔ b = c := by
  constructor
  · intro h
    exact UInt8.toNat_inj.1 (by omega)
  · rintro rfl; omega
/-! what is left when bytes of a set are taken off both ends -/
theorem dropWhile_nil {p : UInt8 → Bool} (l : List UInt8) : l.dropWhile p = [] ↔ l.all p = true := by
  induction l with
  | nil => simp
  | cons a l ih =>
    rw [List.dropWhile_cons]
    by_cases h : p a = true
    · rw [if_pos h, ih]; simp [h]
    · rw [if_neg h]; simp [h]
theorem trimS_nil (l cs : List UInt8) : Lib.trimS l cs = [] ↔ l.all (cs.contains ·) = true := by
  unfold Lib.trimS Lib.trimLeftS Lib.trimRightS
  rw [dropWhile_nil]
  constructor
  · intro h
    by_cases hr : (l.reverse.dropWhile (cs.contains ·)) = []
    · rw [dropWhile_nil, List.all_reverse] at hr; exact hr
    · exfalso
      rw [List.all_reverse] at h
      cases hd : l.reverse.dropWhile (cs.contains ·) with
      | nil => exact hr hd
      | cons a t =>
        have ha : cs.contains a = false := by
          have := List.head?_dropWhile_not (cs.contains ·) l.reverse
          rw [hd] at this
          simpa using this
        rw [hd] at h
        simp at h
        rw [List.contains_eq_mem] at ha
        simp [h.1] at ha
  · intro h
    have : (l.reverse.dropWhile (cs.contains ·)) = [] := by
      rw [dropWhile_nil, List.all_reverse]; exact h
    rw [this]; rfl
theorem toList_nil (l : List UInt8) : ((⟨l.toArray⟩ : ByteArray).toList == ([] : List UInt8)) = l.isEmpty := by
  have : (⟨l.toArray⟩ : ByteArray).toList = l := by
    rw [ByteArray.toList_eq]
  rw [this]
  cases l <;> rfl
theorem l1In_eq (a b c : Int) : spec_l1In.f a b c = some (decide (b ≤ a) && decide (a ≤ c)) := by
  unfold spec_l1In.f
  by_cases h : a ≥ b
  · rw [if_pos h]; simp [show b ≤ a from h]
  · rw [if_neg h]; simp [show ¬ b ≤ a from h]
/-! a line, as both sides ask for it -/
def onOff (b : UInt8) : Bool := b == 48 || b == 49
def isLn (s : ByteArray) : Bool := decide (s.size ≤ 200) && s.data.toList.all onOff
theorem bt_is (s : ByteArray) (i : Nat) (h : i < s.size) (c : UInt8) (n : Int) (hc : (c.toNat : Int) = n) : (bt s (i : Int) = n) ↔ (s.data.toList[i]'(by rw [size_data]; exact h)) = c := by
  rw [bt_nat s i h, ← hc]
  constructor
  · intro e; exact UInt8.toNat_inj.1 (by omega)
  · intro e; rw [e]
theorem l4Line_l0 (s : ByteArray) (hs : s.size ≤ 1048576) (d : Nat) : ∀ (k i : Nat), i ≤ s.size → s.size - i = d → 2 * d + 1 < k → (s.data.toList.take i).all onOff = true → spec_l4Line.l0 k s (i : Int) = some (isLn s) := by
  have hsz := size_data s
  induction d with
  | zero =>
    intro k i hi hd hk ht
    obtain ⟨k, rfl⟩ := pred_of_lt hk
    obtain ⟨k, rfl⟩ : ∃ m, k = m + 1 := ⟨k - 1, by omega⟩
    simp only [spec_l4Line.l0]; rw [if_neg (by omega)]
    simp only [spec_l4Line.j1]; rw [if_neg (by simp)]
    rw [List.take_of_length_le (by omega)] at ht
    have : decide ((s.size : Int) ≤ 200) = decide (s.size ≤ 200) := by rw [decide_eq_decide]; omega
    rw [this]; simp [isLn, ht]
  | succ d ih =>
    intro k i hi hd hk ht
    obtain ⟨k, rfl⟩ := pred_of_lt hk
    obtain ⟨k, rfl⟩ : ∃ m, k = m + 1 := ⟨k - 1, by omega⟩
    have c1 : (i : Int) < (s.size : Int) := by omega
    have c2 : (0 : Int) ≤ (i : Int) := by omega
    have e : wrap64 ((i : Int) + 1) = ((i + 1 : Nat) : Int) := by rw [wr (by omega) (by omega)]; omega
    simp only [spec_l4Line.l0, c1, if_true, spec_l4Line.j1]
    by_cases h200 : (i : Int) ≤ 200
    · have hd2 : decide ((i : Int) ≤ 200) = true := by simpa using h200
      simp only [hd2, c2, if_true, e]
      have hlt : i < s.data.toList.length := by omega
      have next : onOff (s.data.toList[i]) = true → spec_l4Line.l0 k s ((i + 1 : Nat) : Int) = some (isLn s) := fun hb => ih k (i + 1) (by omega) (by omega) (by omega) (by
        rw [List.take_succ_eq_append_getElem hlt, List.all_append, ht]; simp only [List.all_cons, List.all_nil, hb, Bool.and_true])
      by_cases h0 : bt s (i : Int) = 48
      · rw [if_pos h0]
        exact next (by rw [bt_is s i (by omega) 48 48 (by decide)] at h0; rw [h0]; decide)
      · rw [if_neg h0]
        by_cases h1 : bt s (i : Int) = 49
        · rw [if_pos h1]
          exact next (by rw [bt_is s i (by omega) 49 49 (by decide)] at h1; rw [h1]; decide)
        · rw [if_neg h1]
          rw [bt_is s i (by omega) 48 48 (by decide)] at h0
          rw [bt_is s i (by omega) 49 49 (by decide)] at h1
          have hm : s.data.toList[i] ∈ s.data.toList := List.getElem_mem _
          have hf : s.data.toList.all onOff = false := by
            rw [List.all_eq_false]; exact ⟨_, hm, by simp only [onOff, Bool.or_eq_true, beq_iff_eq, h0, h1, or_self, not_false_eq_true]⟩
          simp [isLn, hf]
    · have hd2 : decide ((i : Int) ≤ 200) = false := by simpa using h200
      simp only [hd2, Bool.false_eq_true, if_false]
      have : decide ((s.size : Int) ≤ 200) = false := by simp; omega
      rw [this]
      simp [isLn, show ¬ s.size ≤ 200 by omega]
theorem l4Line_eq (s : ByteArray) (hs : s.size ≤ 1048576) (k : Nat) (hk : 2 * s.size + 1 < k) : spec_l4Line.f k s = some (isLn s) := by
  unfold spec_l4Line.f
  exact l4Line_l0 s hs s.size k 0 (by omega) (by omega) hk (by simp)
theorem implLine_eq (s : ByteArray) : impl_IsLine.f s = some (isLn s) := by
  unfold impl_IsLine.f
  by_cases h : (s.size : Int) ≤ 200
  · rw [if_pos h]
    unfold strings_Trim.f
    rw [if_pos (by omega), if_pos (by decide), if_pos (by decide)]
    simp only [Option.bind_some]
    rw [toList_nil]
    have e : (Lib.trimS s.data.toList [48, 49]).isEmpty = s.data.toList.all onOff := by
      rw [Bool.eq_iff_iff, List.isEmpty_iff, trimS_nil]
      have : (fun x => [48, 49].contains x) = onOff := by
        funext x
        simp [onOff, List.contains_eq_mem]
        rfl
      rw [this]
    show some (Lib.trimS s.data.toList [48, 49]).isEmpty = _
    rw [e]
    simp [isLn, show s.size ≤ 200 by omega]
  · rw [if_neg h]; simp [isLn, show ¬ s.size ≤ 200 by omega]
/-! is a unit on: as both sides ask it -/
def onB (s : ByteArray) (i : Int) : Bool := (decide (0 ≤ i) && decide (i ≤ (s.size : Int) - 1)) && (bt s i == 49)
theorem in_eq (a b c : Int) : impl_in.f a b c = some (decide (b ≤ a) && decide (a ≤ c)) := by
  unfold impl_in.f
  by_cases h : a ≥ b
  · rw [if_pos h]; simp [show b ≤ a from h]
  · rw [if_neg h]; simp [show ¬ b ≤ a from h]
theorem l4On_eq (s : ByteArray) (hs : s.size ≤ 1048576) (i : Int) : spec_l4On.f s i = some (onB s i) := by
  unfold spec_l4On.f
  rw [l1In_eq, wr (by omega) (by omega)]
  simp only [Option.bind_some]
  by_cases h : (decide (0 ≤ i) && decide (i ≤ (s.size : Int) - 1)) = true
  · rw [if_pos h]
    simp only [Bool.and_eq_true, decide_eq_true_eq] at h
    rw [if_pos h.1, if_pos (by omega)]
    simp [onB, h.1, h.2]
  · rw [if_neg h]
    have h' := (Bool.not_eq_true _).mp h
    simp only [onB, h', Bool.false_and]
theorem isOn_eq (s : ByteArray) (hs : s.size ≤ 1048576) (i : Int) : impl_isOn.f s i = some (onB s i) := by
  unfold impl_isOn.f
  rw [in_eq, wr (by omega) (by omega)]
  simp only [Option.bind_some]
  by_cases h : (decide (0 ≤ i) && decide (i ≤ (s.size : Int) - 1)) = true
  · rw [if_pos h]
    simp only [Bool.and_eq_true, decide_eq_true_eq] at h
    rw [if_pos h.1, if_pos (by omega)]
    simp [onB, h.1, h.2]
  · rw [if_neg h]
    have h' := (Bool.not_eq_true _).mp h
    simp only [onB, h', Bool.false_and]
theorem onB_neg (s : ByteArray) (i : Int) (h : i < 0) : onB s i = false := by simp [onB, show ¬ 0 ≤ i by omega]
theorem onB_far (s : ByteArray) (i : Int) (h : (s.size : Int) ≤ i) : onB s i = false := by simp [onB, show ¬ i ≤ (s.size : Int) - 1 by omega]
/-! lists of texts: their sizes, copies, comparisons -/
theorem rdS_get (xs : List ByteArray) (i : Nat) (h : i < xs.length) : rdOf ByteArray.empty xs (i : Int) = xs[i] := by simp [rdOf, h]
theorem toList_inj (a b : ByteArray) : a.toList = b.toList ↔ a = b := by
  rw [ByteArray.toList_eq, ByteArray.toList_eq]
  constructor
  · intro h; exact ByteArray.ext (Array.toList_inj.1 h)
  · rintro rfl; rfl
theorem szStringS_l0 (l : List ByteArray) (hl : l.length ≤ maxLen) (hs : ∀ s ∈ l, s.size ≤ maxLen) (d : Nat) : ∀ (i : Nat) (left : Int), 0 ≤ left → left ≤ 1048576 → i ≤ l.length → l.length - i = d →
    ∃ t : Int, (∀ k, d < k → laws_szStringS.l0 k l left (i : Int) = some t) ∧ t ≤ left ∧ (0 ≤ t → ∀ j (h : j < l.length), i ≤ j → (l[j].size : Int) ≤ left) := by
  unfold maxLen at hl hs
  induction d with
  | zero =>
    intro i left h0 h1 hi hd
    refine ⟨left, fun k hk => ?_, by omega, fun _ j h hij => by omega⟩
    obtain ⟨k, rfl⟩ := pred_of_lt hk
    simp only [laws_szStringS.l0]; rw [if_neg (by omega)]
  | succ d ih =>
    intro i left h0 h1 hi hd
    have hlt : i < l.length := by omega
    have hsz := hs _ (List.getElem_mem hlt)
    have c1 : (i : Int) < (l.length : Int) := by omega
    have c2 : (0 : Int) ≤ (i : Int) := by omega
    have e1 : wrap64 ((i : Int) + 1) = ((i + 1 : Nat) : Int) := by rw [wr (by omega) (by omega)]; omega
    have e2 : wrap64 (left - (l[i].size : Int)) = left - (l[i].size : Int) := by rw [wr (by omega) (by omega)]
    by_cases hc : left - (l[i].size : Int) < 0
    · refine ⟨-1, fun k hk => ?_, by omega, fun h => by omega⟩
      obtain ⟨k, rfl⟩ := pred_of_lt hk
      simp only [laws_szStringS.l0, c1, c2, if_true, rdS_get l i hlt, e2, hc]
    · obtain ⟨t, ht, h2, h3⟩ := ih (i + 1) (left - (l[i].size : Int)) (by omega) (by omega) (by omega) (by omega)
      refine ⟨t, fun k hk => ?_, by omega, fun h0t j h hij => ?_⟩
      · obtain ⟨k, rfl⟩ := pred_of_lt hk
        simp only [laws_szStringS.l0, c1, c2, if_true, rdS_get l i hlt, e2, hc, if_false, e1]
        exact ht k (by omega)
      · by_cases hji : i = j
        · subst hji; omega
        · have := h3 h0t j h (by omega); omega
theorem szStringS_eq (l : List ByteArray) (hl : l.length ≤ maxLen) (hs : ∀ s ∈ l, s.size ≤ maxLen) : ∃ t : Int, (∀ k, l.length < k → laws_szStringS.f k l 1048576 = some t) ∧ (0 ≤ t → l.length ≤ 1048576 ∧ ∀ s ∈ l, s.size ≤ 1048576) := by
  have hl' := hl
  unfold maxLen at hl'
  have e : wrap64 (1048576 - (l.length : Int)) = 1048576 - (l.length : Int) := by rw [wr (by omega) (by omega)]
  by_cases hc : 1048576 - (l.length : Int) < 0
  · refine ⟨-1, fun k hk => ?_, fun h => by omega⟩
    unfold laws_szStringS.f
    rw [e, if_pos hc]
  · obtain ⟨t, ht, h2, h3⟩ := szStringS_l0 l hl hs l.length 0 (1048576 - (l.length : Int)) (by omega) (by omega) (by omega) (by omega)
    refine ⟨t, fun k hk => ?_, fun h0 => ⟨by omega, fun s hsm => ?_⟩⟩
    · unfold laws_szStringS.f
      rw [e, if_neg hc]
      exact ht k hk
    · obtain ⟨j, hj, rfl⟩ := List.getElem_of_mem hsm
      have := h3 h0 j hj (by omega)
      omega
theorem toStringS_l0 (x0 : List ByteArray) (hx : x0.length ≤ 1048576) (d : Nat) : ∀ (k i : Nat) (x3 : List ByteArray), i ≤ x0.length → x0.length - i = d → d < k → x3.length = x0.length → (∀ j, j < i → x3[j]? = x0[j]?) →
    laws_toStringS.l0 k x0 x3 (i : Int) = some x0 := by
  induction d with
  | zero =>
    intro k i x3 hi hd hk hl ht
    obtain ⟨k, rfl⟩ := pred_of_lt hk
    simp only [laws_toStringS.l0]; rw [if_neg (by omega)]
    refine congrArg some (List.ext_getElem? fun j => ?_)
    by_cases hj : j < i
    · exact ht j hj
    · rw [List.getElem?_eq_none (by omega), List.getElem?_eq_none (by omega)]
  | succ d ih =>
    intro k i x3 hi hd hk hl ht
    obtain ⟨k, rfl⟩ := pred_of_lt hk
    simp only [laws_toStringS.l0]; rw [if_pos (by omega), if_pos (by omega), if_pos (by omega), wr (by omega) (by omega)]
    have e : ((i : Int) + 1) = ((i + 1 : Nat) : Int) := by omega
    rw [e, Int.toNat_natCast, rdS_get x0 i (by omega)]
    refine ih k (i + 1) _ (by omega) (by omega) (by omega) (by simpa using hl) fun j hj => ?_
    rw [List.getElem?_set]
    by_cases hji : i = j
    · subst hji
      simp [show i < x3.length by omega, show i < x0.length by omega]
    · rw [if_neg hji]; exact ht j (by omega)
theorem toStringS_eq (l : List ByteArray) (h : l.length ≤ 1048576) (k : Nat) (hk : l.length < k) : laws_toStringS.f k l = some l := by
  unfold laws_toStringS.f
  rw [if_pos (by omega), if_pos (by omega)]
  exact toStringS_l0 l (by omega) l.length k 0 _ (by omega) (by omega) hk (by simp) (fun j hj => by omega)
theorem eqStringS_l0 (a : List ByteArray) (ha : a.length ≤ 1048576) (d : Nat) : ∀ (k i : Nat), i ≤ a.length → a.length - i = d → d < k → laws_eqStringS.l0 k a a (i : Int) = some true := by
  induction d with
  | zero =>
    intro k i hi hd hk
    obtain ⟨k, rfl⟩ := pred_of_lt hk
    simp only [laws_eqStringS.l0]; rw [if_neg (by omega)]
  | succ d ih =>
    intro k i hi hd hk
    obtain ⟨k, rfl⟩ := pred_of_lt hk
    simp only [laws_eqStringS.l0, if_true]; rw [if_pos (by omega), if_pos (by omega), if_pos (by omega), wr (by omega) (by omega)]
    have e : ((i : Int) + 1) = ((i + 1 : Nat) : Int) := by omega
    rw [e]
    exact ih k (i + 1) (by omega) (by omega) (by omega)
theorem eqStringS_self (a : List ByteArray) (ha : a.length ≤ 1048576) (k : Nat) (hk : a.length < k) : laws_eqStringS.f k a a = some true := by
  unfold laws_eqStringS.f
  rw [if_pos rfl]
  exact eqStringS_l0 a ha a.length k 0 (by omega) (by omega) hk
/-! lists of numbers, compared -/
theorem eqIntS_l0 (a b : List Int) (hab : a.length = b.length) (ha : a.length ≤ 1048576) (d : Nat) : ∀ (k i : Nat), i ≤ a.length → a.length - i = d → d < k → (∀ j, j < i → a[j]? = b[j]?) →
    laws_eqIntS.l0 k a b (i : Int) = some (decide (a = b)) := by
  induction d with
  | zero =>
    intro k i hi hd hk ht
    obtain ⟨k, rfl⟩ := pred_of_lt hk
    simp only [laws_eqIntS.l0]; rw [if_neg (by omega)]
    have : a = b := List.ext_getElem? fun j => by
      by_cases hj : j < i
      · exact ht j hj
      · rw [List.getElem?_eq_none (by omega), List.getElem?_eq_none (by omega)]
    simp [this]
  | succ d ih =>
    intro k i hi hd hk ht
    obtain ⟨k, rfl⟩ := pred_of_lt hk
    simp only [laws_eqIntS.l0]; rw [if_pos (by omega), if_pos (by omega), if_pos (by omega), rd_get a i (by omega), rd_get b i (by omega)]
    by_cases hc : a[i]'(by omega) = b[i]'(by omega)
    · rw [if_pos hc, wr (by omega) (by omega)]
      have e : ((i : Int) + 1) = ((i + 1 : Nat) : Int) := by omega
      rw [e]
      refine ih k (i + 1) (by omega) (by omega) (by omega) fun j hj => ?_
      by_cases hji : j = i
      · subst hji
        rw [List.getElem?_eq_getElem (by omega), List.getElem?_eq_getElem (by omega), hc]
      · exact ht j (by omega)
    · rw [if_neg hc]
      have : ¬ a = b := fun e => hc (by subst e; rfl)
      simp [this]
theorem eqIntS_eq (a b : List Int) (ha : a.length ≤ 1048576) (k : Nat) (hk : a.length < k) : laws_eqIntS.f k a b = some (decide (a = b)) := by
  unfold laws_eqIntS.f
  by_cases h : (a.length : Int) = (b.length : Int)
  · rw [if_pos h]
    exact eqIntS_l0 a b (by omega) ha a.length k 0 (by omega) (by omega) hk (fun j hj => by omega)
  · rw [if_neg h]
    have : ¬ a = b := fun e => h (by rw [e])
    simp [this]
theorem eqIntS_self (a : List Int) (ha : a.length ≤ 1048576) (k : Nat) (hk : a.length < k) : laws_eqIntS.f k a a = some true := by
  rw [eqIntS_eq a a ha k hk]; simp
def seqI (a : Int) (n : Nat) : List Int := (List.range n).map fun (j : Nat) => a + (j : Int)
theorem seqI_len (a : Int) (n : Nat) : (seqI a n).length = n := by simp [seqI]
theorem seqI_get (a : Int) (n j : Nat) (h : j < n) : (seqI a n)[j]? = some (a + (j : Int)) := by simp [seqI, h]
theorem markIntS_l0 (a : Int) (h0 : 0 ≤ a) (h1 : a ≤ 1048576) (n : Nat) (hn : n ≤ 1048576) (d : Nat) : ∀ (k i : Nat) (x0 : List Int), x0.length = n → i ≤ n → n - i = d → d < k → (∀ j, j < i → x0[j]? = some (a + (j : Int))) →
    laws_markIntS.l0 k x0 (a + (i : Int)) (i : Int) = some (a + (n : Int), seqI a n) := by
  induction d with
  | zero =>
    intro k i x0 hl hi hd hk ht
    obtain ⟨k, rfl⟩ := pred_of_lt hk
    simp only [laws_markIntS.l0]; rw [if_neg (by omega)]
    have hin : i = n := by omega
    have : x0 = seqI a n := List.ext_getElem? fun j => by
      by_cases hj : j < i
      · rw [ht j hj, seqI_get a n j (by omega)]
      · rw [List.getElem?_eq_none (by omega), List.getElem?_eq_none (by rw [seqI_len]; omega)]
    rw [this, hin]
  | succ d ih =>
    intro k i x0 hl hi hd hk ht
    obtain ⟨k, rfl⟩ := pred_of_lt hk
    simp only [laws_markIntS.l0]; rw [if_pos (by omega), if_pos (by omega), wr (by omega) (by omega), wr (by omega) (by omega)]
    have e : ((i : Int) + 1) = ((i + 1 : Nat) : Int) := by omega
    have e2 : a + (i : Int) + 1 = a + ((i + 1 : Nat) : Int) := by omega
    rw [e2, e, Int.toNat_natCast]
    refine ih k (i + 1) _ (by simpa using hl) (by omega) (by omega) (by omega) fun j hj => ?_
    rw [List.getElem?_set]
    by_cases hji : i = j
    · subst hji
      simp [show i < x0.length by omega]
    · rw [if_neg hji]; exact ht j (by omega)
theorem markIntS_eq (l : List Int) (a : Int) (h0 : 0 ≤ a) (h1 : a ≤ 1048576) (h : l.length ≤ 1048576) (k : Nat) (hk : l.length < k) : laws_markIntS.f k l a = some (a + (l.length : Int), seqI a l.length) := by
  unfold laws_markIntS.f
  have := markIntS_l0 a h0 h1 l.length h l.length k 0 l rfl (by omega) (by omega) hk (fun j hj => by omega)
  simpa using this
theorem heldIntS_l0 (a : Int) (h0 : 0 ≤ a) (h1 : a ≤ 1048576) (n : Nat) (hn : n ≤ 1048576) (d : Nat) : ∀ (k i : Nat), i ≤ n → n - i = d → d < k → laws_heldIntS.l0 k (seqI a n) (a + (i : Int)) (i : Int) = some (a + (n : Int)) := by
  induction d with
  | zero =>
    intro k i hi hd hk
    obtain ⟨k, rfl⟩ := pred_of_lt hk
    simp only [laws_heldIntS.l0]; rw [seqI_len, if_neg (by omega), show i = n by omega]
  | succ d ih =>
    intro k i hi hd hk
    obtain ⟨k, rfl⟩ := pred_of_lt hk
    simp only [laws_heldIntS.l0]; rw [seqI_len, if_pos (by omega), if_pos (by omega), if_pos, wr (by omega) (by omega), wr (by omega) (by omega)]
    · have e : ((i : Int) + 1) = ((i + 1 : Nat) : Int) := by omega
      have e2 : a + (i : Int) + 1 = a + ((i + 1 : Nat) : Int) := by omega
      rw [e2, e]
      exact ih k (i + 1) (by omega) (by omega) (by omega)
    · have := seqI_get a n i (by omega)
      rw [rd_nat, List.getD_eq_getElem?_getD, this]; rfl
theorem heldIntS_eq (a : Int) (h0 : 0 ≤ a) (h1 : a ≤ 1048576) (n : Nat) (hn : n ≤ 1048576) (k : Nat) (hk : n < k) : laws_heldIntS.f k (seqI a n) a = some (a + (n : Int)) := by
  unfold laws_heldIntS.f
  have := heldIntS_l0 a h0 h1 n hn n k 0 (by omega) (by omega) hk
  simpa using this
/-! marks that are laid into a list of texts and found again -/
theorem strNum_size (n : Int) : (strOfNums [n]).size = 1 := rfl
theorem markText_l0 (f : Nat) : ∀ (a : Int) (x : ByteArray), 0 ≤ a → a < 10 ^ f → a ≤ 1000000000 → x.size + f ≤ 1000 → ∃ r, ∀ k, f < k → laws_markText.l0 k a x = some r := by
  induction f with
  | zero =>
    intro a x h0 h1 h2 hx
    refine ⟨(⟨#[109]⟩ : ByteArray) ++ x, fun k hk => ?_⟩
    obtain ⟨k, rfl⟩ := pred_of_lt hk
    simp only [laws_markText.l0]
    rw [if_neg (by simp at h1; omega), if_pos (by omega)]
  | succ f ih =>
    intro a x h0 h1 h2 hx
    by_cases hp : a > 0
    · have hq : Int.tdiv a 10 = a / 10 := Int.tdiv_eq_ediv_of_nonneg h0
      have hlt : a / 10 < 10 ^ f := by
        rw [Int.pow_succ] at h1
        exact Int.ediv_lt_of_lt_mul (by decide) h1
      obtain ⟨r, hr⟩ := ih (a / 10) (strOfNums [(wrap64 (48 + (Int.tmod a 10))) % 256] ++ x) (by omega) hlt (by omega) (by rw [ByteArray.size_append, strNum_size]; omega)
      refine ⟨r, fun k hk => ?_⟩
      obtain ⟨k, rfl⟩ := pred_of_lt hk
      simp only [laws_markText.l0]
      rw [if_pos hp]
      simp only [Option.bind_some]
      rw [if_pos (by rw [strNum_size]; omega), hq, wr (i := a / 10) (by omega) (by omega)]
      exact hr k (by omega)
    · refine ⟨(⟨#[109]⟩ : ByteArray) ++ x, fun k hk => ?_⟩
      obtain ⟨k, rfl⟩ := pred_of_lt hk
      simp only [laws_markText.l0]
      rw [if_neg hp, if_pos (by omega)]
theorem markText_ex (a : Int) (h0 : 0 ≤ a) (h1 : a ≤ 100000000) : ∃ r, ∀ k, 9 < k → laws_markText.f k a = some r := by
  unfold laws_markText.f
  by_cases h : a ≤ 0
  · exact ⟨_, fun k hk => by rw [if_pos h]⟩
  · obtain ⟨r, hr⟩ := markText_l0 9 a (⟨#[]⟩ : ByteArray) h0 (by omega) (by omega) (by show 0 + 9 ≤ 1000; omega)
    exact ⟨r, fun k hk => by rw [if_neg h]; exact hr k hk⟩
def mt (a : Int) : ByteArray := (laws_markText.f 10 a).getD ByteArray.empty
theorem markText_eq (a : Int) (h0 : 0 ≤ a) (h1 : a ≤ 100000000) (k : Nat) (hk : 9 < k) : laws_markText.f k a = some (mt a) := by
  obtain ⟨r, hr⟩ := markText_ex a h0 h1
  unfold mt
  rw [hr k hk, hr 10 (by omega)]; rfl
def seqS (a : Int) (n : Nat) : List ByteArray := (List.range n).map fun (j : Nat) => mt (a + (j : Int))
theorem seqS_len (a : Int) (n : Nat) : (seqS a n).length = n := by simp [seqS]
theorem seqS_get (a : Int) (n j : Nat) (h : j < n) : (seqS a n)[j]? = some (mt (a + (j : Int))) := by simp [seqS, h]
theorem markStringS_l0 (a : Int) (h0 : 0 ≤ a) (h1 : a ≤ 10000000) (n : Nat) (hn : n ≤ 10000000) (d : Nat) : ∀ (k i : Nat) (x0 : List ByteArray), x0.length = n → i ≤ n → n - i = d → d + 10 < k → (∀ j, j < i → x0[j]? = some (mt (a + (j : Int)))) →
    laws_markStringS.l0 k x0 (a + (i : Int)) (i : Int) = some (a + (n : Int), seqS a n) := by
  induction d with
  | zero =>
    intro k i x0 hl hi hd hk ht
    obtain ⟨k, rfl⟩ := pred_of_lt hk
    simp only [laws_markStringS.l0]; rw [if_neg (by omega)]
    have hin : i = n := by omega
    have : x0 = seqS a n := List.ext_getElem? fun j => by
      by_cases hj : j < i
      · rw [ht j hj, seqS_get a n j (by omega)]
      · rw [List.getElem?_eq_none (by omega), List.getElem?_eq_none (by rw [seqS_len]; omega)]
    rw [this, hin]
  | succ d ih =>
    intro k i x0 hl hi hd hk ht
    obtain ⟨k, rfl⟩ := pred_of_lt hk
    simp only [laws_markStringS.l0]; rw [if_pos (by omega), markText_eq _ (by omega) (by omega) k (by omega)]
    simp only [Option.bind_some]
    rw [if_pos (by omega), wr (by omega) (by omega), wr (by omega) (by omega)]
    have e : ((i : Int) + 1) = ((i + 1 : Nat) : Int) := by omega
    have e2 : a + (i : Int) + 1 = a + ((i + 1 : Nat) : Int) := by omega
    rw [e2, e, Int.toNat_natCast]
    refine ih k (i + 1) _ (by simpa using hl) (by omega) (by omega) (by omega) fun j hj => ?_
    rw [List.getElem?_set]
    by_cases hji : i = j
    · subst hji
      simp [show i < x0.length by omega]
    · rw [if_neg hji]; exact ht j (by omega)
theorem markStringS_eq (l : List ByteArray) (a : Int) (h0 : 0 ≤ a) (h1 : a ≤ 10000000) (h : l.length ≤ 10000000) (k : Nat) (hk : l.length + 10 < k) : laws_markStringS.f k l a = some (a + (l.length : Int), seqS a l.length) := by
  unfold laws_markStringS.f
  have := markStringS_l0 a h0 h1 l.length h l.length k 0 l rfl (by omega) (by omega) hk (fun j hj => by omega)
  simpa using this
def ov (s : ByteArray) (t : Nat) : Int := if onB s (t : Int) = true then 1 else 0
def cn (l : List ByteArray) (t : Nat) : Int := (l.map fun s => ov s t).sum
def vec (g : Nat → Int) (n : Nat) : List Int := (List.range n).map g
def mxz (l : List ByteArray) : Nat := l.foldl (fun m s => max m s.size) 0
theorem cn_snoc (l : List ByteArray) (s : ByteArray) (t : Nat) : cn (l ++ [s]) t = cn l t + ov s t := by simp [cn]
theorem mxz_snoc (l : List ByteArray) (s : ByteArray) : mxz (l ++ [s]) = max (mxz l) s.size := by simp [mxz, List.foldl_append]
theorem ov_le (s : ByteArray) (t : Nat) : 0 ≤ ov s t ∧ ov s t ≤ 1 := by unfold ov; split <;> omega
theorem cn_le (t : Nat) : ∀ l : List ByteArray, 0 ≤ cn l t ∧ cn l t ≤ (l.length : Int)
  | [] => ⟨Int.le_refl _, Int.le_refl _⟩
  | s :: l => by
    have h1 := cn_le t l
    have h2 := ov_le s t
    simp only [cn, List.map_cons, List.sum_cons, List.length_cons] at h1 ⊢
    omega
theorem ov_far (s : ByteArray) (t : Nat) (h : s.size ≤ t) : ov s t = 0 := by
  unfold ov
  rw [onB_far s (t : Int) (by omega), if_neg (by decide)]
theorem fold_ge : ∀ (l : List ByteArray) (m : Nat), m ≤ l.foldl (fun m s => max m s.size) m ∧ ∀ s ∈ l, s.size ≤ l.foldl (fun m s => max m s.size) m
  | [], m => ⟨Nat.le_refl _, fun s h => by cases h⟩
  | a :: l, m => by
    have h := fold_ge l (max m a.size)
    simp only [List.foldl_cons]
    refine ⟨by omega, fun s hs => ?_⟩
    rcases List.mem_cons.1 hs with e | e
    · rw [e]; omega
    · exact h.2 s e
theorem mxz_ge (l : List ByteArray) (s : ByteArray) (h : s ∈ l) : s.size ≤ mxz l := (fold_ge l 0).2 s h
theorem cn_far (t : Nat) : ∀ l : List ByteArray, (∀ s ∈ l, s.size ≤ t) → cn l t = 0
  | [], _ => rfl
  | s :: l, h => by
    have h1 := cn_far t l fun x hx => h x (List.mem_cons_of_mem _ hx)
    have h2 := ov_far s t (h s List.mem_cons_self)
    simp only [cn, List.map_cons, List.sum_cons] at h1 ⊢
    omega
theorem vec_len (g : Nat → Int) (n : Nat) : (vec g n).length = n := by simp [vec]
theorem vec_get (g : Nat → Int) (n j : Nat) (h : j < n) : (vec g n)[j]? = some (g j) := by simp [vec, h]
theorem vec_snoc (g : Nat → Int) (n : Nat) : vec g (n + 1) = vec g n ++ [g n] := by simp [vec, List.range_succ]
theorem vec_congr (g h : Nat → Int) (n : Nat) (e : ∀ j, j < n → g j = h j) : vec g n = vec h n := by
  apply List.ext_getElem?
  intro j
  by_cases hj : j < n
  · rw [vec_get g n j hj, vec_get h n j hj, e j hj]
  · rw [List.getElem?_eq_none (by rw [vec_len]; omega), List.getElem?_eq_none (by rw [vec_len]; omega)]
theorem vec_set (g h : Nat → Int) (n t : Nat) (ht : t < n) (e : ∀ j, j ≠ t → g j = h j) : (vec g n).set t (h t) = vec h n := by
  apply List.ext_getElem?
  intro j
  rw [List.getElem?_set]
  by_cases hj : j < n
  · by_cases hjt : t = j
    · subst hjt
      rw [if_pos rfl, if_pos (by rw [vec_len]; exact hj), vec_get h n t hj]
    · rw [if_neg hjt, vec_get g n j hj, vec_get h n j hj, e j (fun x => hjt x.symm)]
  · rw [if_neg (by omega), List.getElem?_eq_none (by rw [vec_len]; omega), List.getElem?_eq_none (by rw [vec_len]; omega)]
def ansO (l : List ByteArray) : List Int × Bool := if (l.length : Int) > 8 then ([], false) else if l.all isLn = true then (vec (cn l) (mxz l), true) else ([], false)
theorem isLn_size (s : ByteArray) (h : isLn s = true) : s.size ≤ 200 := by
  simp only [isLn, Bool.and_eq_true, decide_eq_true_eq] at h
  exact h.1
theorem fold_le (b : Nat) : ∀ (l : List ByteArray) (m : Nat), m ≤ b → (∀ s ∈ l, s.size ≤ b) → l.foldl (fun m s => max m s.size) m ≤ b
  | [], m, h, _ => h
  | a :: l, m, h, hs => by
    simp only [List.foldl_cons]
    exact fold_le b l _ (by have := hs a List.mem_cons_self; omega) fun s hx => hs s (List.mem_cons_of_mem _ hx)
theorem mxz_le (l : List ByteArray) (b : Nat) (h : ∀ s ∈ l, s.size ≤ b) : mxz l ≤ b := fold_le b l 0 (by omega) h
/-! the reference -/
theorem sOn_l2 (l : List ByteArray) (hl : l.length ≤ 8) (hs : ∀ s ∈ l, s.size ≤ 1048576) (mx : Int) (t : Nat) (ht : t < 1000) (x4 : List Int) (h4 : x4.length < 17592186044416) (q d : Nat) : ∀ (m j : Nat), m = q + d + 1 → j ≤ l.length → l.length - j = d →
    spec_OnAtOnce.l2 m l x4 mx (t : Int) (cn (l.take j) t) (j : Int) = spec_OnAtOnce.l1 q l (x4 ++ [cn l t]) mx ((t + 1 : Nat) : Int) := by
  have et : wrap64 ((t : Int) + 1) = ((t + 1 : Nat) : Int) := by rw [wr (by omega) (by omega)]; omega
  induction d with
  | zero =>
    intro m j hm hj hd
    subst hm
    have hjl : j = l.length := by clear et; omega
    have cj : ¬ (j : Int) < (l.length : Int) := by clear et; omega
    simp only [spec_OnAtOnce.l2, Nat.add_zero, cj, if_false, h4, if_true, et]
    rw [hjl, List.take_length]
  | succ d ih =>
    intro m j hm hj hd
    obtain ⟨m, rfl⟩ : ∃ m', m = m' + 1 := ⟨q + d + 1, by clear et ih; omega⟩
    have hlt : j < l.length := by clear et ih; omega
    obtain ⟨s, hsz, hget, hsn⟩ : ∃ s : ByteArray, s.size ≤ 1048576 ∧ rdOf ByteArray.empty l (j : Int) = s ∧ cn (l.take (j + 1)) t = cn (l.take j) t + ov s t := ⟨l[j], hs _ (List.getElem_mem hlt), rdS_get l j hlt, by rw [List.take_succ_eq_append_getElem hlt, cn_snoc]⟩
    have n := ih m (j + 1) (Nat.succ.inj hm) hlt (by rw [Nat.sub_add_eq, hd]; rfl)
    have hc := cn_le t (l.take j)
    have hcl : ((l.take j).length : Int) ≤ 8 := by rw [List.length_take]; clear et ih n; omega
    have c1 : (j : Int) < (l.length : Int) := by clear et ih n; omega
    have c2 : (0 : Int) ≤ (j : Int) := by clear et ih n; omega
    have ec : wrap64 (cn (l.take j) t + 1) = cn (l.take j) t + 1 := by clear et ih n; rw [wr (by omega) (by omega)]
    have e1 : wrap64 ((j : Int) + 1) = ((j + 1 : Nat) : Int) := by clear et ih n ec; rw [wr (by omega) (by omega)]; omega
    simp only [spec_OnAtOnce.l2, c1, c2, if_true, hget, l4On_eq s hsz, Option.bind_some, e1, ec]
    rw [hsn] at n
    unfold ov at n
    by_cases hon : onB s (t : Int) = true
    · rw [if_pos hon] at n ⊢; exact n
    · rw [if_neg hon] at n ⊢; rw [Int.add_zero] at n; exact n
theorem sOn_l1 (l : List ByteArray) (hl : l.length ≤ 8) (hs : ∀ s ∈ l, s.size ≤ 1048576) (mx : Nat) (hmx : mx ≤ 200) (d : Nat) : ∀ (k t : Nat), t ≤ mx → mx - t = d → d * 12 + 12 < k →
    spec_OnAtOnce.l1 k l (vec (cn l) t) (mx : Int) (t : Int) = some (vec (cn l) mx, true) := by
  induction d with
  | zero =>
    intro k t ht hd hk
    obtain ⟨k, rfl⟩ := pred_of_lt hk
    simp only [spec_OnAtOnce.l1]
    rw [if_neg (by omega), show t = mx by omega]
  | succ d ih =>
    intro k t ht hd hk
    obtain ⟨k, rfl⟩ := pred_of_lt hk
    obtain ⟨q, rfl⟩ : ∃ q, k = q + l.length + 1 := ⟨k - l.length - 1, by omega⟩
    have st := sOn_l2 l hl hs (mx : Int) t (by omega) (vec (cn l) t) (by rw [vec_len]; omega) q l.length _ 0 rfl (by omega) (by omega)
    rw [List.take_zero] at st
    have n := ih q (t + 1) (by omega) (by omega) (by omega)
    rw [vec_snoc] at n
    simp only [spec_OnAtOnce.l1]
    rw [if_pos (by omega)]
    exact st.trans n
theorem sOn_l0 (l : List ByteArray) (hl : l.length ≤ 8) (hs : ∀ s ∈ l, s.size ≤ 1048576) (d : Nat) : ∀ (k i : Nat), i ≤ l.length → l.length - i = d → d + 2100000 < k → (l.take i).all isLn = true →
    spec_OnAtOnce.l0 k l [] ((mxz (l.take i) : Nat) : Int) (i : Int) = some (ansO l) := by
  induction d with
  | zero =>
    intro k i hi hd hk ha
    obtain ⟨k, rfl⟩ := pred_of_lt hk
    rw [List.take_of_length_le (by omega)] at ha ⊢
    have hm : mxz l ≤ 200 := mxz_le l 200 fun s h => isLn_size s (List.all_eq_true.1 ha s h)
    have := sOn_l1 l hl hs (mxz l) hm (mxz l) k 0 (by omega) (by omega) (by omega)
    have hz : ((0 : Nat) : Int) = 0 := rfl
    have hv : vec (cn l) 0 = [] := rfl
    rw [hz, hv] at this
    simp only [spec_OnAtOnce.l0]
    rw [if_neg (by omega), this]
    unfold ansO
    rw [if_neg (by omega), if_pos ha]
  | succ d ih =>
    intro k i hi hd hk ha
    obtain ⟨k, rfl⟩ := pred_of_lt hk
    have hlt : i < l.length := by omega
    obtain ⟨s, hmem, hget, hsn⟩ : ∃ s : ByteArray, s ∈ l ∧ rdOf ByteArray.empty l (i : Int) = s ∧ l.take (i + 1) = l.take i ++ [s] := ⟨l[i], List.getElem_mem hlt, rdS_get l i hlt, List.take_succ_eq_append_getElem hlt⟩
    have hsz := hs s hmem
    have hmt : mxz (l.take i) ≤ 1048576 := mxz_le _ _ fun x hx => hs x (List.mem_of_mem_take hx)
    have n := ih k (i + 1) hlt (by rw [Nat.sub_add_eq, hd]; rfl) (by clear ih; omega)
    have hln := l4Line_eq s hsz k (by clear ih n; omega)
    have c1 : (i : Int) < (l.length : Int) := by clear ih n; omega
    have c2 : (0 : Int) ≤ (i : Int) := by clear ih n; omega
    have e1 : wrap64 ((i : Int) + 1) = ((i + 1 : Nat) : Int) := by clear ih n; rw [wr (by omega) (by omega)]; omega
    have em : spec_l1Most.f ((mxz (l.take i) : Nat) : Int) (s.size : Int) = some ((mxz (l.take (i + 1)) : Nat) : Int) := by
      clear ih n e1
      unfold spec_l1Most.f
      rw [hsn, mxz_snoc]
      by_cases h : ((mxz (l.take i) : Nat) : Int) > (s.size : Int)
      · rw [if_pos h]; exact congrArg some (by omega)
      · rw [if_neg h]; exact congrArg some (by omega)
    simp only [spec_OnAtOnce.l0, c1, c2, if_true, hget, hln, Option.bind_some, em, e1]
    by_cases hls : isLn s = true
    · rw [if_pos hls]
      exact n (by rw [hsn, List.all_append, ha]; simp [hls])
    · rw [if_neg hls]
      unfold ansO
      rw [if_neg (by clear ih n e1; omega), if_neg (fun h => hls (List.all_eq_true.1 h s hmem))]
/-! the program -/
def gst (f : Nat → Int) (s : ByteArray) (t u : Nat) : Int := f u + if u < t then ov s u else 0
theorem iOn_l1 (l : List ByteArray) (i : Nat) (hi : i < 8) (f : Nat → Int) (n : Nat) (hn : n ≤ 200) (hf : ∀ u, 0 ≤ f u ∧ f u ≤ 8) (hfar : ∀ u, n ≤ u → f u = 0) (s : ByteArray) (hs : s.size ≤ 200) (q d : Nat) : ∀ (m t : Nat), m = q + d + 1 → t ≤ s.size → s.size - t = d →
    impl_OnAtOnce.l1 m (vec (gst f s t) (max t n)) s l (l.length : Int) (i : Int) (s.size : Int) (t : Int) = impl_OnAtOnce.l0 q (vec (gst f s s.size) (max s.size n)) l (l.length : Int) ((i + 1 : Nat) : Int) := by
  have ei : wrap64 ((i : Int) + 1) = ((i + 1 : Nat) : Int) := by rw [wr (by omega) (by omega)]; omega
  induction d with
  | zero =>
    intro m t hm ht hd
    subst hm
    have htl : t = s.size := by clear ei; omega
    have cj : ¬ (t : Int) < (s.size : Int) := by clear ei; omega
    simp only [impl_OnAtOnce.l1, Nat.add_zero, cj, if_false, ei]
    rw [htl]
  | succ d ih =>
    intro m t hm ht hd
    obtain ⟨m, rfl⟩ : ∃ m', m = m' + 1 := ⟨q + d + 1, by clear ei ih; omega⟩
    have hlt : t < s.size := by clear ei ih; omega
    have nx := ih m (t + 1) (Nat.succ.inj hm) hlt (by rw [Nat.sub_add_eq, hd]; rfl)
    have c1 : (t : Int) < (s.size : Int) := by clear ei ih nx; omega
    have c2 : (0 : Int) ≤ (t : Int) := by clear ei ih nx; omega
    have e1 : wrap64 ((t : Int) + 1) = ((t + 1 : Nat) : Int) := by clear ei ih nx; rw [wr (by omega) (by omega)]; omega
    have hft := hf t
    have gt0 : gst f s t t = f t := by unfold gst; rw [if_neg (by omega), Int.add_zero]
    have gt1 : gst f s (t + 1) t = f t + ov s t := by unfold gst; rw [if_pos (by omega)]
    have goff : ∀ j, j ≠ t → gst f s t j = gst f s (t + 1) j := fun j hj => by
      unfold gst
      by_cases h : j < t
      · rw [if_pos h, if_pos (by omega)]
      · rw [if_neg h, if_neg (by omega)]
    have ew : wrap64 (f t + 1) = f t + 1 := by clear ei ih nx e1; rw [wr (by omega) (by omega)]
    have hio := isOn_eq s (by clear ei ih nx e1 ew; omega) (t : Int)
    have rdv : ∀ N, t < N → rd (vec (gst f s t) N) (t : Int) = f t := fun N hN => by
      rw [rd_nat, List.getD_eq_getElem?_getD, vec_get _ N t hN, gt0]; rfl
    have put : ∀ N, t < N → onB s (t : Int) = true → (vec (gst f s t) N).set t (f t + 1) = vec (gst f s (t + 1)) N := fun N hN hon => by
      have h1 : f t + 1 = gst f s (t + 1) t := by rw [gt1]; unfold ov; rw [if_pos hon]
      rw [h1]
      exact vec_set _ _ N t hN goff
    have keep : ∀ N, ¬ onB s (t : Int) = true → vec (gst f s t) N = vec (gst f s (t + 1)) N := fun N hon => vec_congr _ _ N fun j _ => by
      by_cases hj : j = t
      · subst hj; rw [gt0, gt1]; unfold ov; rw [if_neg hon, Int.add_zero]
      · exact goff j hj
    by_cases hc : n ≤ t
    · have hmax : max t n = t := by omega
      have hmax1 : max (t + 1) n = t + 1 := by omega
      have hz : vec (gst f s t) t ++ [0] = vec (gst f s t) (t + 1) := by rw [vec_snoc, gt0, hfar t hc]
      rw [hmax1] at nx
      rw [hmax]
      have cl : (t : Int) = ((vec (gst f s t) t).length : Int) := by rw [vec_len]
      have cs : (vec (gst f s t) t).length < 17592186044416 := by rw [vec_len]; omega
      have cb : (t : Int) < ((vec (gst f s t) (t + 1)).length : Int) := by rw [vec_len]; omega
      rw [impl_OnAtOnce.l1, if_pos c1, if_pos cl, if_pos cs, hz]
      simp only [Option.bind_some, hio, c2, cb, if_true, rdv (t + 1) (by omega), ew, Int.toNat_natCast, e1]
      by_cases hon : onB s (t : Int) = true
      · rw [if_pos hon, put (t + 1) (by omega) hon]; exact nx
      · rw [if_neg hon, keep (t + 1) hon]; exact nx
    · have hmax : max t n = n := by omega
      have hmax1 : max (t + 1) n = n := by omega
      rw [hmax1] at nx
      rw [hmax]
      have cl : ¬ (t : Int) = ((vec (gst f s t) n).length : Int) := by rw [vec_len]; omega
      have cb : (t : Int) < ((vec (gst f s t) n).length : Int) := by rw [vec_len]; omega
      rw [impl_OnAtOnce.l1, if_pos c1, if_neg cl]
      simp only [Option.bind_some, hio, c2, cb, if_true, rdv n (by omega), ew, Int.toNat_natCast, e1]
      by_cases hon : onB s (t : Int) = true
      · rw [if_pos hon, put n (by omega) hon]; exact nx
      · rw [if_neg hon, keep n hon]; exact nx
theorem iOn_l0 (l : List ByteArray) (hl : l.length ≤ 8) (hs : ∀ s ∈ l, s.size ≤ 1048576) (d : Nat) : ∀ (k i : Nat), i ≤ l.length → l.length - i = d → d * 210 + 10 < k → (l.take i).all isLn = true →
    impl_OnAtOnce.l0 k (vec (cn (l.take i)) (mxz (l.take i))) l (l.length : Int) (i : Int) = some (ansO l) := by
  induction d with
  | zero =>
    intro k i hi hd hk ha
    obtain ⟨k, rfl⟩ := pred_of_lt hk
    rw [List.take_of_length_le (by omega)] at ha ⊢
    simp only [impl_OnAtOnce.l0]
    rw [if_neg (by omega)]
    unfold ansO
    rw [if_neg (by omega), if_pos ha]
  | succ d ih =>
    intro k i hi hd hk ha
    obtain ⟨k, rfl⟩ := pred_of_lt hk
    have hlt : i < l.length := by omega
    obtain ⟨s, hmem, hget, hsn⟩ : ∃ s : ByteArray, s ∈ l ∧ rdOf ByteArray.empty l (i : Int) = s ∧ l.take (i + 1) = l.take i ++ [s] := ⟨l[i], List.getElem_mem hlt, rdS_get l i hlt, List.take_succ_eq_append_getElem hlt⟩
    have c1 : (i : Int) < (l.length : Int) := by omega
    have c2 : (0 : Int) ≤ (i : Int) := by omega
    simp only [impl_OnAtOnce.l0, c1, c2, if_true, hget, implLine_eq, Option.bind_some]
    by_cases hls : isLn s = true
    · rw [if_pos hls]
      have hz := isLn_size s hls
      have hmt : mxz (l.take i) ≤ 200 := mxz_le _ _ fun x hx => isLn_size x (List.all_eq_true.1 ha x hx)
      obtain ⟨q, rfl⟩ : ∃ q, k = q + s.size + 1 := ⟨k - s.size - 1, by omega⟩
      have hcl : ((l.take i).length : Int) ≤ 8 := by rw [List.length_take]; omega
      have st := iOn_l1 l i (by omega) (cn (l.take i)) (mxz (l.take i)) hmt (fun u => by have := cn_le u (l.take i); omega)
        (fun u hu => cn_far u _ fun x hx => Nat.le_trans (mxz_ge _ x hx) hu) s hz q s.size _ 0 rfl (by omega) (by omega)
      have g0 : vec (gst (cn (l.take i)) s 0) (max 0 (mxz (l.take i))) = vec (cn (l.take i)) (mxz (l.take i)) := by
        rw [Nat.zero_max]
        exact vec_congr _ _ _ fun j _ => by unfold gst; rw [if_neg (by omega), Int.add_zero]
      have g1 : vec (gst (cn (l.take i)) s s.size) (max s.size (mxz (l.take i))) = vec (cn (l.take (i + 1))) (mxz (l.take (i + 1))) := by
        rw [hsn, mxz_snoc, Nat.max_comm]
        refine vec_congr _ _ _ fun j _ => ?_
        rw [cn_snoc]; unfold gst
        by_cases hj : j < s.size
        · rw [if_pos hj]
        · rw [if_neg hj, ov_far s j (by omega)]
      rw [g0, g1] at st
      have hz0 : ((0 : Nat) : Int) = 0 := rfl
      rw [hz0] at st
      rw [st]
      exact ih q (i + 1) hlt (by rw [Nat.sub_add_eq, hd]; rfl) (by omega) (by rw [hsn, List.all_append, ha]; simp [hls])
    · rw [if_neg hls]
      unfold ansO
      rw [if_neg (by omega), if_neg (fun h => hls (List.all_eq_true.1 h s hmem))]
theorem on_both (l : List ByteArray) (hs : ∀ s ∈ l, s.size ≤ 1048576) (k : Nat) (hk : 2200000 ≤ k) : spec_OnAtOnce.f k l = some (ansO l) ∧ impl_OnAtOnce.f k l = some (ansO l) := by
  unfold spec_OnAtOnce.f impl_OnAtOnce.f
  simp only [Option.bind_some]
  by_cases h8 : (l.length : Int) > 8
  · rw [if_pos h8, if_pos h8]
    unfold ansO
    rw [if_pos h8]
    exact ⟨rfl, rfl⟩
  · rw [if_neg h8, if_neg h8]
    have s := sOn_l0 l (by omega) hs l.length k 0 (by omega) (by omega) (by omega) (by simp)
    have i := iOn_l0 l (by omega) hs l.length k 0 (by omega) (by omega) (by omega) (by simp)
    rw [List.take_zero] at s i
    exact ⟨s, i⟩
theorem ansO_len (l : List ByteArray) : (ansO l).1.length ≤ 1048576 := by
  unfold ansO
  by_cases h8 : (l.length : Int) > 8
  · rw [if_pos h8]; exact Nat.zero_le _
  · rw [if_neg h8]
    by_cases ha : l.all isLn = true
    · rw [if_pos ha]
      have hm : mxz l ≤ 200 := mxz_le l 200 fun s h => isLn_size s (List.all_eq_true.1 ha s h)
      show (vec (cn l) (mxz l)).length ≤ _
      rw [vec_len]; omega
    · rw [if_neg ha]; exact Nat.zero_le _
theorem FnExactOnAtOnce : laws_FnExactOnAtOnce.Pure := by
  intro l hl hs
  obtain ⟨t, ht, hb⟩ := szStringS_eq l hl hs
  by_cases h0 : t < 0
  · refine ⟨l.length + 1, ?_⟩
    unfold laws_FnExactOnAtOnce.f
    rw [ht _ (by omega)]
    simp only [Option.bind_some, h0, if_true]
  · obtain ⟨h1, h2⟩ := hb (by omega)
    have both := fun k hk => on_both l h2 k hk
    have hlen := ansO_len l
    obtain ⟨⟨R, b⟩, hR⟩ : ∃ R, R = ansO l := ⟨_, rfl⟩
    rw [← hR] at hlen both
    have hRl : R.length ≤ 1048576 := hlen
    obtain ⟨M, hM⟩ : ∃ M : Nat, 4194400 ≤ M := ⟨4194400, Nat.le_refl _⟩
    refine ⟨M + 3, ?_⟩
    have a1 := ht (M + 3) (by omega)
    have a2 := toStringS_eq l h1 (M + 3) (by omega)
    have r := both (M + 3) (by omega)
    have a3 := eqIntS_self R hRl (M + 3) (by omega)
    have b1 := toStringS_eq l h1 (M + 2) (by omega)
    have b2 := eqStringS_self l h1 (M + 2) (by omega)
    have b3 := markStringS_eq l 1 (by omega) (by omega) (by omega) (M + 2) (by omega)
    have b4 := eqIntS_self R hRl (M + 2) (by omega)
    have c1 := markIntS_eq R 1 (by omega) (by omega) hRl (M + 1) (by omega)
    have c2 := heldIntS_eq 1 (by omega) (by omega) R.length hRl (M + 1) (by omega)
    have c3 := toStringS_eq l h1 (M + 1) (by omega)
    have c4 := (both (M + 1) (by omega)).2
    have c5 := eqIntS_self R hRl (M + 1) (by omega)
    have d1 := heldIntS_eq 1 (by omega) (by omega) R.length hRl M (by omega)
    unfold laws_FnExactOnAtOnce.f
    simp only [a1, Option.bind_some, h0, if_false]
    simp only [a2, r.1, r.2, a3, Option.bind_some, bne_self_eq_false, if_true]
    simp only [laws_FnExactOnAtOnce.j0, b1, b2, b3, b4, Option.bind_some, Bool.false_eq_true, if_false, if_true, bne_self_eq_false]
    rw [if_neg (by omega)]
    simp only [laws_FnExactOnAtOnce.j1, c1, c2, Option.bind_some, Bool.false_eq_true, if_false, if_true]
    rw [if_neg (by omega)]
    simp only [c3, c4, c5, Option.bind_some, Bool.false_eq_true, if_false, if_true, bne_self_eq_false]
    simp only [laws_FnExactOnAtOnce.j2, d1, Option.bind_some, Bool.false_eq_true, if_false, if_true]
    rw [if_neg (by omega)]

end Go.Proofs.YtnbinhbkgakllaaDoor.Pure
