/- DecodeSignal of the program and of the reference answer alike at every table and text. -/
import Derived.Test.YtebdmdegmlblgaaDoorHFnExactDecodeSignalx6
namespace Go.Proofs.YtebdmdegmlblgaaDoor.Pure
open Go.RowKit Go.Proofs.YtebdmdegmlblgaaDoor.HFnExactDecodeSignal Go.Proofs.YtebdmdegmlblgaaDoorW.PrintWords Go.Proofs.YtebdmdegmlblgaaDoorW.PrintLast
set_option linter.unusedVariables false
set_option linter.unusedSimpArgs false
set_option linter.unnecessarySimpa false

theorem wr {i : Int} (h0 : -9223372036854775808 ≤ i) (h1 : i ≤ 9223372036854775807) : wrap64 i = i := by unfold wrap64; omega
theorem rd_nat (xs : List Int) (i : Nat) : rd xs (i : Int) = xs.getD i 0 := by simp [rd]
theorem rd_get (xs : List Int) (i : Nat) (h : i < xs.length) : rd xs (i : Int) = xs[i] := by simp [rd, h]
theorem pred_of_lt {d k : Nat} (h : d < k) : ∃ m, k = m + 1 := ⟨k - 1, by omega⟩
/-! bytes of a text -/
theorem size_data (s : ByteArray) : s.data.toList.length = s.size := Array.length_toList
theorem bt_nat (s : ByteArray) (i : Nat) (h : i < s.size) : bt s (i : Int) = ((s.data.toList[i]'(by rw [size_data]; exact h)).toNat : Int) := by
  have := bt_at s (i : Int) (by simpa using h)
  rw [← this]
  rfl
theorem byte_num (b c : UInt8) (n : Nat) (hc : c.toNat = n) : ((b.toNat : Int) = (n : Int)) ↔ b = c := by
  constructor
  · intro h
    exact UInt8.toNat_inj.1 (by omega)
  · rintro rfl; omega
/-! what is left when bytes of a set are taken off both ends -/
theorem dropWhile_nil {p : UInt8 → Bool} (l : List UInt8) : l.dropWhile p = [] ↔ l.all p = true := by
  induction l with
  | nil => simp
  | cons a l ih =>
    rw [List.dropWhile_cons]
    by_cases h : p a = true
    · rw [if_pos h, ih]; simp [h]
    · rw [if_neg h]; simp [h]
theorem trimS_nil (l cs : List UInt8) : Lib.trimS l cs = [] ↔ l.all (cs.contains ·) = true := by
  unfold Lib.trimS Lib.trimLeftS Lib.trimRightS
  rw [dropWhile_nil]
  constructor
  · intro h
    by_cases hr : (l.reverse.dropWhile (cs.contains ·)) = []
    · rw [dropWhile_nil, List.all_reverse] at hr; exact hr
    · exfalso
      rw [List.all_reverse] at h
      cases hd : l.reverse.dropWhile (cs.contains ·) with
      | nil => exact hr hd
      | cons a t =>
        have ha : cs.contains a = false := by
          have := List.head?_dropWhile_not (cs.contains ·) l.reverse
          rw [hd] at this
          simpa using this
        rw [hd] at h
        simp at h
        rw [List.contains_eq_mem] at ha
        simp [h.1] at ha
  · intro h
    have : (l.reverse.dropWhile (cs.contains ·)) = [] := by
      rw [dropWhile_nil, List.all_reverse]; exact h
    rw [this]; rfl
theorem toList_nil (l : List UInt8) : ((⟨l.toArray⟩ : ByteArray).toList == ([] : List UInt8)) = l.isEmpty := by
  have : (⟨l.toArray⟩ : ByteArray).toList = l := by
    rw [ByteArray.toList_eq]
  rw [this]
  cases l <;> rfl
theorem l1In_eq (a b c : Int) : spec_l1In.f a b c = some (decide (b ≤ a) && decide (a ≤ c)) := by
  unfold spec_l1In.f
  by_cases h : a ≥ b
  · rw [if_pos h]; simp [show b ≤ a from h]
  · rw [if_neg h]; simp [show ¬ b ≤ a from h]
theorem in_eq (a b c : Int) : impl_in.f a b c = some (decide (b ≤ a) && decide (a ≤ c)) := by
  unfold impl_in.f
  by_cases h : a ≥ b
  · rw [if_pos h]; simp [show b ≤ a from h]
  · rw [if_neg h]; simp [show ¬ b ≤ a from h]
/-! lists of texts: their sizes, copies, comparisons -/
theorem rdS_get (xs : List ByteArray) (i : Nat) (h : i < xs.length) : rdOf ByteArray.empty xs (i : Int) = xs[i] := by simp [rdOf, h]
theorem toList_inj (a b : ByteArray) : a.toList = b.toList ↔ a = b := by
  rw [ByteArray.toList_eq, ByteArray.toList_eq]
  constructor
  · intro h; exact ByteArray.ext (Array.toList_inj.1 h)
  · rintro rfl; rfl
theorem szStringS_l0 (l : List ByteArray) (hl : l.length ≤ maxLen) (hs : ∀ s ∈ l, s.size ≤ maxLen) (d : Nat) : ∀ (i : Nat) (left : Int), 0 ≤ left → left ≤ 1048576 → i ≤ l.length → l.length - i = d →
    ∃ t : Int, (∀ k, d < k → laws_szStringS.l0 k l left (i : Int) = some t) ∧ t ≤ left ∧ (0 ≤ t → ∀ j (h : j < l.length), i ≤ j → (l[j].size : Int) ≤ left) := by
  unfold maxLen at hl hs
  induction d with
  | zero =>
    intro i left h0 h1 hi hd
    refine ⟨left, fun k hk => ?_, by omega, fun _ j h hij => by omega⟩
    obtain ⟨k, rfl⟩ := pred_of_lt hk
    simp only [laws_szStringS.l0]; rw [if_neg (by omega)]
  | succ d ih =>
    intro i left h0 h1 hi hd
    have hlt : i < l.length := by omega
    have hsz := hs _ (List.getElem_mem hlt)
    have c1 : (i : Int) < (l.length : Int) := by omega
    have c2 : (0 : Int) ≤ (i : Int) := by omega
    have e1 : wrap64 ((i : Int) + 1) = ((i + 1 : Nat) : Int) := by rw [wr (by omega) (by omega)]; omega
    have e2 : wrap64 (left - (l[i].size : Int)) = left - (l[i].size : Int) := by rw [wr (by omega) (by omega)]
    by_cases hc : left - (l[i].size : Int) < 0
    · refine ⟨-1, fun k hk => ?_, by omega, fun h => by omega⟩
      obtain ⟨k, rfl⟩ := pred_of_lt hk
      simp only [laws_szStringS.l0, c1, c2, if_true, rdS_get l i hlt, e2, hc]
    · obtain ⟨t, ht, h2, h3⟩ := ih (i + 1) (left - (l[i].size : Int)) (by omega) (by omega) (by omega) (by omega)
      refine ⟨t, fun k hk => ?_, by omega, fun h0t j h hij => ?_⟩
      · obtain ⟨k, rfl⟩ := pred_of_lt hk
        simp only [laws_szStringS.l0, c1, c2, if_true, rdS_get l i hlt, e2, hc, if_false, e1]
        exact ht k (by omega)
      · by_cases hji : i = j
        · subst hji; omega
        · have := h3 h0t j h (by omega); omega
theorem szStringS_eq (l : List ByteArray) (hl : l.length ≤ maxLen) (hs : ∀ s ∈ l, s.size ≤ maxLen) : ∃ t : Int, (∀ k, l.length < k → laws_szStringS.f k l 1048576 = some t) ∧ (0 ≤ t → l.length ≤ 1048576 ∧ ∀ s ∈ l, s.size ≤ 1048576) := by
  have hl' := hl
  unfold maxLen at hl'
  have e : wrap64 (1048576 - (l.length : Int)) = 1048576 - (l.length : Int) := by rw [wr (by omega) (by omega)]
  by_cases hc : 1048576 - (l.length : Int) < 0
  · refine ⟨-1, fun k hk => ?_, fun h => by omega⟩
    unfold laws_szStringS.f
    rw [e, if_pos hc]
  · obtain ⟨t, ht, h2, h3⟩ := szStringS_l0 l hl hs l.length 0 (1048576 - (l.length : Int)) (by omega) (by omega) (by omega) (by omega)
    refine ⟨t, fun k hk => ?_, fun h0 => ⟨by omega, fun s hsm => ?_⟩⟩
    · unfold laws_szStringS.f
      rw [e, if_neg hc]
      exact ht k hk
    · obtain ⟨j, hj, rfl⟩ := List.getElem_of_mem hsm
      have := h3 h0 j hj (by omega)
      omega
theorem toStringS_l0 (x0 : List ByteArray) (hx : x0.length ≤ 1048576) (d : Nat) : ∀ (k i : Nat) (x3 : List ByteArray), i ≤ x0.length → x0.length - i = d → d < k → x3.length = x0.length → (∀ j, j < i → x3[j]? = x0[j]?) →
    laws_toStringS.l0 k x0 x3 (i : Int) = some x0 := by
  induction d with
  | zero =>
    intro k i x3 hi hd hk hl ht
    obtain ⟨k, rfl⟩ := pred_of_lt hk
    simp only [laws_toStringS.l0]; rw [if_neg (by omega)]
    refine congrArg some (List.ext_getElem? fun j => ?_)
    by_cases hj : j < i
    · exact ht j hj
    · rw [List.getElem?_eq_none (by omega), List.getElem?_eq_none (by omega)]
  | succ d ih =>
    intro k i x3 hi hd hk hl ht
    obtain ⟨k, rfl⟩ := pred_of_lt hk
    simp only [laws_toStringS.l0]; rw [if_pos (by omega), if_pos (by omega), if_pos (by omega), wr (by omega) (by omega)]
    have e : ((i : Int) + 1) = ((i + 1 : Nat) : Int) := by omega
    rw [e, Int.toNat_natCast, rdS_get x0 i (by omega)]
    refine ih k (i + 1) _ (by omega) (by omega) (by omega) (by simpa using hl) fun j hj => ?_
    rw [List.getElem?_set]
    by_cases hji : i = j
    · subst hji
      simp [show i < x3.length by omega, show i < x0.length by omega]
    · rw [if_neg hji]; exact ht j (by omega)
theorem toStringS_eq (l : List ByteArray) (h : l.length ≤ 1048576) (k : Nat) (hk : l.length < k) : laws_toStringS.f k l = some l := by
  unfold laws_toStringS.f
  rw [if_pos (by omega), if_pos (by omega)]
  exact toStringS_l0 l (by omega) l.length k 0 _ (by omega) (by omega) hk (by simp) (fun j hj => by omega)
theorem eqStringS_l0 (a : List ByteArray) (ha : a.length ≤ 1048576) (d : Nat) : ∀ (k i : Nat), i ≤ a.length → a.length - i = d → d < k → laws_eqStringS.l0 k a a (i : Int) = some true := by
  induction d with
  | zero =>
    intro k i hi hd hk
    obtain ⟨k, rfl⟩ := pred_of_lt hk
    simp only [laws_eqStringS.l0]; rw [if_neg (by omega)]
  | succ d ih =>
    intro k i hi hd hk
    obtain ⟨k, rfl⟩ := pred_of_lt hk
    simp only [laws_eqStringS.l0, if_true]; rw [if_pos (by omega), if_pos (by omega), if_pos (by omega), wr (by omega) (by omega)]
    have e : ((i : Int) + 1) = ((i + 1 : Nat) : Int) := by omega
    rw [e]
    exact ih k (i + 1) (by omega) (by omega) (by omega)
theorem eqStringS_self (a : List ByteArray) (ha : a.length ≤ 1048576) (k : Nat) (hk : a.length < k) : laws_eqStringS.f k a a = some true := by
  unfold laws_eqStringS.f
  rw [if_pos rfl]
  exact eqStringS_l0 a ha a.length k 0 (by omega) (by omega) hk
/-! a table that a law is handed -/
theorem szTable_eq (l : List ByteArray) (hl : l.length ≤ maxLen) (hs : ∀ s ∈ l, s.size ≤ maxLen) : ∃ t : Int, (∀ k, l.length < k → laws_szTable.f k l 1048576 = some t) ∧ (0 ≤ t → l.length ≤ 1048576 ∧ ∀ s ∈ l, s.size ≤ 1048576) := by
  obtain ⟨t, ht, h⟩ := szStringS_eq l hl hs
  by_cases h0 : t < 0
  · refine ⟨-1, fun k hk => ?_, fun h => by omega⟩
    unfold laws_szTable.f
    rw [ht k hk]; simp only [Option.bind_some]; rw [if_pos h0]
  · refine ⟨t, fun k hk => ?_, h⟩
    unfold laws_szTable.f
    rw [ht k hk]; simp only [Option.bind_some]; rw [if_neg h0]
theorem toTable_eq (l : List ByteArray) (h : l.length ≤ 1048576) (k : Nat) (hk : l.length < k) : laws_toTable.f k l = some l := by
  unfold laws_toTable.f; rw [toStringS_eq l h k hk]; rfl
theorem eqTable_self (l : List ByteArray) (h : l.length ≤ 1048576) (k : Nat) (hk : l.length < k) : laws_eqTable.f k l l = some true := by
  unfold laws_eqTable.f; rw [eqStringS_self l h k hk]; rfl
/-! marks, as both sides ask for them -/
def dotDash (b : UInt8) : Bool := b == 46 || b == 45
def isMk (s : ByteArray) (lo hi : Int) : Bool := (decide (lo ≤ (s.size : Int)) && decide ((s.size : Int) ≤ hi)) && s.data.toList.all dotDash
theorem bt_is (s : ByteArray) (i : Nat) (h : i < s.size) (c : UInt8) (n : Int) (hc : (c.toNat : Int) = n) : (bt s (i : Int) = n) ↔ (s.data.toList[i]'(by rw [size_data]; exact h)) = c := by
  rw [bt_nat s i h, ← hc]
  constructor
  · intro e; exact UInt8.toNat_inj.1 (by omega)
  · intro e; rw [e]
theorem l2Marks_l0 (s : ByteArray) (hs : s.size ≤ 1048576) (lo hi : Int) (d : Nat) : ∀ (k i : Nat), i ≤ s.size → s.size - i = d → 2 * d + 1 < k → (s.data.toList.take i).all dotDash = true → spec_l2Marks.l0 k s lo hi (i : Int) = some (isMk s lo hi) := by
  have hsz := size_data s
  induction d with
  | zero =>
    intro k i hi' hd hk ht
    obtain ⟨k, rfl⟩ := pred_of_lt hk
    obtain ⟨k, rfl⟩ : ∃ m, k = m + 1 := ⟨k - 1, by omega⟩
    simp only [spec_l2Marks.l0]; rw [if_neg (by omega)]
    simp only [spec_l2Marks.j1]; rw [if_neg (by simp), l1In_eq]
    rw [List.take_of_length_le (by omega)] at ht
    simp only [Option.bind_some, isMk, ht, Bool.and_true]
  | succ d ih =>
    intro k i hi' hd hk ht
    obtain ⟨k, rfl⟩ := pred_of_lt hk
    obtain ⟨k, rfl⟩ : ∃ m, k = m + 1 := ⟨k - 1, by omega⟩
    have c1 : (i : Int) < (s.size : Int) := by omega
    have c2 : (0 : Int) ≤ (i : Int) := by omega
    have e : wrap64 ((i : Int) + 1) = ((i + 1 : Nat) : Int) := by rw [wr (by omega) (by omega)]; omega
    simp only [spec_l2Marks.l0, c1, if_true, spec_l2Marks.j1]
    by_cases h200 : (i : Int) ≤ hi
    · have hd2 : decide ((i : Int) ≤ hi) = true := by simpa using h200
      simp only [hd2, c2, if_true, e]
      have hlt : i < s.data.toList.length := by omega
      have next : dotDash (s.data.toList[i]) = true → spec_l2Marks.l0 k s lo hi ((i + 1 : Nat) : Int) = some (isMk s lo hi) := fun hb => ih k (i + 1) (by omega) (by omega) (by omega) (by
        rw [List.take_succ_eq_append_getElem hlt, List.all_append, ht]; simp only [List.all_cons, List.all_nil, hb, Bool.and_true])
      by_cases h0 : bt s (i : Int) = 46
      · rw [if_pos h0]
        exact next (by rw [bt_is s i (by omega) 46 46 (by decide)] at h0; rw [h0]; decide)
      · rw [if_neg h0]
        by_cases h1 : bt s (i : Int) = 45
        · rw [if_pos h1]
          exact next (by rw [bt_is s i (by omega) 45 45 (by decide)] at h1; rw [h1]; decide)
        · rw [if_neg h1]
          rw [bt_is s i (by omega) 46 46 (by decide)] at h0
          rw [bt_is s i (by omega) 45 45 (by decide)] at h1
          have hm : s.data.toList[i] ∈ s.data.toList := List.getElem_mem _
          have hf : s.data.toList.all dotDash = false := by
            rw [List.all_eq_false]; exact ⟨_, hm, by simp only [dotDash, Bool.or_eq_true, beq_iff_eq, h0, h1, or_self, not_false_eq_true]⟩
          simp only [isMk, hf, Bool.and_false]
    · have hd2 : decide ((i : Int) ≤ hi) = false := by simpa using h200
      simp only [hd2, Bool.false_eq_true, if_false]
      have hn : decide ((s.size : Int) ≤ hi) = false := by simp; omega
      rw [l1In_eq]
      simp only [Option.bind_some, isMk, hn, Bool.and_false, Bool.false_and]
theorem l2Marks_eq (s : ByteArray) (hs : s.size ≤ 1048576) (lo hi : Int) (k : Nat) (hk : 2 * s.size + 1 < k) : spec_l2Marks.f k s lo hi = some (isMk s lo hi) := by
  unfold spec_l2Marks.f
  exact l2Marks_l0 s hs lo hi s.size k 0 (by omega) (by omega) hk (by simp)
theorem areMarks_eq (s : ByteArray) (hs : s.size ≤ 1048576) (lo hi : Int) : impl_areMarks.f s lo hi = some (isMk s lo hi) := by
  unfold impl_areMarks.f
  rw [in_eq]
  simp only [Option.bind_some]
  by_cases h : (decide (lo ≤ (s.size : Int)) && decide ((s.size : Int) ≤ hi)) = true
  · rw [if_pos h]
    unfold strings_Trim.f
    rw [if_pos (by omega), if_pos (by decide), if_pos (by decide)]
    simp only [Option.bind_some]
    rw [toList_nil]
    have e : (Lib.trimS s.data.toList [46, 45]).isEmpty = s.data.toList.all dotDash := by
      rw [Bool.eq_iff_iff, List.isEmpty_iff, trimS_nil]
      have : (fun x => [46, 45].contains x) = dotDash := by
        funext x
        simp [dotDash, List.contains_eq_mem]
        rfl
      rw [this]
    show some (Lib.trimS s.data.toList [46, 45]).isEmpty = _
    rw [e]
    simp only [isMk, h, Bool.true_and]
  · rw [if_neg h]
    simp only [isMk, (Bool.not_eq_true _).mp h, Bool.false_and]
theorem in_eq' (a b c : Int) : impl_in.f a b c = some (decide (b ≤ a) && decide (a ≤ c)) := in_eq a b c
/-! a table, as both sides ask for it -/
def has (l : List ByteArray) (a : ByteArray) : Bool := l.any fun b => a.toList == b.toList
def goodT : List ByteArray → List ByteArray → Bool
  | _, [] => true
  | seen, a :: t => isMk a 1 5 && (!has seen a && goodT (seen ++ [a]) t)
def isTab (l : List ByteArray) : Bool := (decide (1 ≤ (l.length : Int)) && decide ((l.length : Int) ≤ 10)) && goodT [] l
theorem take_snoc {α : Type} (l : List α) (i : Nat) (h : i < l.length) : l.take (i + 1) = l.take i ++ [l[i]] := List.take_succ_eq_append_getElem h
theorem drop_cons {α : Type} (l : List α) (i : Nat) (h : i < l.length) : l.drop i = l[i] :: l.drop (i + 1) := List.drop_eq_getElem_cons h
theorem has_take (l : List ByteArray) (a : ByteArray) (i : Nat) (h : i < l.length) : has (l.take (i + 1)) a = (has (l.take i) a || (a.toList == l[i].toList)) := by
  unfold has
  rw [take_snoc l i h, List.any_append]; simp only [List.any_cons, List.any_nil, Bool.or_false]
/-- where a text stands in a list first, or -1 -/
def placeN (l : List ByteArray) (a : ByteArray) : Int := match l.findIdx? (fun b => a.toList == b.toList) with
  | some i => (i : Int)
  | none => -1
theorem place_hit (l : List ByteArray) (a : ByteArray) (i : Nat) (hi : i < l.length) (h1 : has (l.take i) a = false) (h2 : a.toList = l[i].toList) : placeN l a = (i : Int) := by
  unfold placeN
  have : l.findIdx? (fun b => a.toList == b.toList) = some i := by
    rw [List.findIdx?_eq_some_iff_getElem]
    refine ⟨hi, by simpa using h2, fun j hj => ?_⟩
    intro hc
    have hm : l[j] ∈ l.take i := by
      rw [List.mem_take_iff_getElem]
      exact ⟨j, by omega, rfl⟩
    have ht : has (l.take i) a = true := List.any_eq_true.2 ⟨_, hm, hc⟩
    rw [h1] at ht; cases ht
  rw [this]
theorem place_none (l : List ByteArray) (a : ByteArray) (h : has l a = false) : placeN l a = -1 := by
  unfold placeN
  have : l.findIdx? (fun b => a.toList == b.toList) = none := by
    rw [List.findIdx?_eq_none_iff]
    intro x hx
    have := List.any_eq_false.1 h x hx
    simpa using this
  rw [this]
theorem l2Place_l0 (l : List ByteArray) (hl : l.length ≤ 1048576) (a : ByteArray) (d : Nat) : ∀ (k i : Nat), i ≤ l.length → l.length - i = d → d < k → has (l.take i) a = false → spec_l2Place.l0 k l a (i : Int) = some (placeN l a) := by
  induction d with
  | zero =>
    intro k i hi hd hk ht
    obtain ⟨k, rfl⟩ := pred_of_lt hk
    simp only [spec_l2Place.l0]; rw [if_neg (by omega)]
    rw [List.take_of_length_le (by omega)] at ht
    rw [place_none l a ht]
  | succ d ih =>
    intro k i hi hd hk ht
    obtain ⟨k, rfl⟩ := pred_of_lt hk
    have hlt : i < l.length := by omega
    simp only [spec_l2Place.l0]; rw [if_pos (by omega), if_pos (by omega), rdS_get l i hlt]
    by_cases hc : l[i].toList = a.toList
    · rw [if_pos hc, place_hit l a i hlt ht hc.symm]
    · rw [if_neg hc, wr (by omega) (by omega)]
      have e : ((i : Int) + 1) = ((i + 1 : Nat) : Int) := by omega
      rw [e]
      refine ih k (i + 1) (by omega) (by omega) (by omega) ?_
      rw [has_take l a i hlt, ht, Bool.false_or, beq_eq_false_iff_ne]
      exact fun e => hc e.symm
theorem l2Place_eq (l : List ByteArray) (hl : l.length ≤ 1048576) (a : ByteArray) (k : Nat) (hk : l.length < k) : spec_l2Place.f k l a = some (placeN l a) := by
  unfold spec_l2Place.f
  exact l2Place_l0 l hl a l.length k 0 (by omega) (by omega) hk (by simp [has])
theorem sIndex_l0 (l : List ByteArray) (hl : l.length ≤ 1048576) (a : ByteArray) (d : Nat) : ∀ (k i : Nat), i ≤ l.length → l.length - i = d → d < k → has (l.take i) a = false → slices_Index_string_string.l0 k l a (l.length : Int) (i : Int) = some (placeN l a) := by
  induction d with
  | zero =>
    intro k i hi hd hk ht
    obtain ⟨k, rfl⟩ := pred_of_lt hk
    simp only [slices_Index_string_string.l0]; rw [if_neg (by omega)]
    rw [List.take_of_length_le (by omega)] at ht
    rw [place_none l a ht]
  | succ d ih =>
    intro k i hi hd hk ht
    obtain ⟨k, rfl⟩ := pred_of_lt hk
    have hlt : i < l.length := by omega
    simp only [slices_Index_string_string.l0]; rw [if_pos (by omega), if_pos (by omega), if_pos (by omega), rdS_get l i hlt]
    by_cases hc : a.toList = l[i].toList
    · rw [if_pos hc, place_hit l a i hlt ht hc]
    · rw [if_neg hc, wr (by omega) (by omega)]
      have e : ((i : Int) + 1) = ((i + 1 : Nat) : Int) := by omega
      rw [e]
      refine ih k (i + 1) (by omega) (by omega) (by omega) ?_
      rw [has_take l a i hlt, ht, Bool.false_or, beq_eq_false_iff_ne]
      exact hc
theorem sIndex_eq (l : List ByteArray) (hl : l.length ≤ 1048576) (a : ByteArray) (k : Nat) (hk : l.length < k) : slices_Index_string_string.f k l a = some (placeN l a) := by
  unfold slices_Index_string_string.f
  exact sIndex_l0 l hl a l.length k 0 (by omega) (by omega) hk (by simp [has])
theorem place_has (l : List ByteArray) (a : ByteArray) : decide (placeN l a ≥ 0) = has l a := by
  by_cases h : has l a = true
  · obtain ⟨x, hx, hb⟩ := List.any_eq_true.1 h
    unfold placeN
    cases hf : l.findIdx? (fun b => a.toList == b.toList) with
    | none =>
      have := List.findIdx?_eq_none_iff.1 hf x hx
      rw [hb] at this; cases this
    | some i => rw [h]; simp
  · rw [place_none l a ((Bool.not_eq_true _).mp h), (Bool.not_eq_true _).mp h]; decide
theorem sContains_eq (l : List ByteArray) (hl : l.length ≤ 1048576) (a : ByteArray) (k : Nat) (hk : l.length < k) : slices_Contains_string_string.f k l a = some (has l a) := by
  unfold slices_Contains_string_string.f
  rw [sIndex_eq l hl a k hk]
  simp only [Option.bind_some]
  rw [place_has]
theorem place_self (l : List ByteArray) (i : Nat) (hi : i < l.length) : (placeN l l[i] = (i : Int)) ↔ has (l.take i) l[i] = false := by
  constructor
  · intro h
    by_cases hc : has (l.take i) l[i] = true
    · exfalso
      obtain ⟨x, hx, hb⟩ := List.any_eq_true.1 hc
      obtain ⟨j, hj, rfl⟩ := List.getElem_of_mem hx
      rw [List.length_take] at hj
      unfold placeN at h
      cases hf : l.findIdx? (fun b => l[i].toList == b.toList) with
      | none => rw [hf] at h; simp at h
      | some m =>
        rw [hf] at h
        have hm : m = i := by
          have h' : (m : Int) = (i : Int) := h
          omega
        subst hm
        have := (List.findIdx?_eq_some_iff_getElem.1 hf).2.2 j (by omega)
        rw [List.getElem_take] at hb
        exact this hb
    · exact (Bool.not_eq_true _).mp hc
  · intro h
    exact place_hit l l[i] i hi h rfl
theorem l2Table_l0 (l : List ByteArray) (hl : l.length ≤ 1048576) (hs : ∀ s ∈ l, s.size ≤ 1048576) (M : Nat) (hM : l.length + 2097160 ≤ M) (d : Nat) : ∀ (k i : Nat), i ≤ l.length → l.length - i = d → M + d < k → spec_l2Table.l0 k (i : Int) l = some (goodT (l.take i) (l.drop i)) := by
  induction d with
  | zero =>
    intro k i hi hd hk
    obtain ⟨k, rfl⟩ := pred_of_lt hk
    simp only [spec_l2Table.l0]; rw [if_neg (by omega), List.drop_eq_nil_of_le (by omega)]
    simp [goodT]
  | succ d ih =>
    intro k i hi hd hk
    obtain ⟨k, rfl⟩ := pred_of_lt hk
    have hlt : i < l.length := by omega
    have hz := hs _ (List.getElem_mem hlt)
    rw [drop_cons l i hlt]
    simp only [spec_l2Table.l0]; rw [if_pos (by omega), if_pos (by omega), rdS_get l i hlt, l2Marks_eq _ hz 1 5 k (by omega), l2Place_eq l hl _ k (by omega)]
    simp only [Option.bind_some, goodT]
    by_cases h1 : isMk l[i] 1 5 = true
    · rw [if_pos h1, h1, Bool.true_and]
      by_cases h2 : placeN l l[i] = (i : Int)
      · rw [if_pos h2, (place_self l i hlt).1 h2, wr (by omega) (by omega)]
        have e : ((i : Int) + 1) = ((i + 1 : Nat) : Int) := by omega
        rw [e, ih k (i + 1) (by omega) (by omega) (by omega), take_snoc l i hlt]
        simp
      · rw [if_neg h2]
        have : has (l.take i) l[i] = true := by
          by_cases hc : has (l.take i) l[i] = true
          · exact hc
          · exact absurd ((place_self l i hlt).2 ((Bool.not_eq_true _).mp hc)) h2
        rw [this]; simp
    · rw [if_neg h1, (Bool.not_eq_true _).mp h1]; simp
theorem l2Table_eq (l : List ByteArray) (hl : l.length ≤ 1048576) (hs : ∀ s ∈ l, s.size ≤ 1048576) (k : Nat) (hk : 4194400 ≤ k) : spec_l2Table.f k l = some (isTab l) := by
  unfold spec_l2Table.f
  rw [l1In_eq]
  simp only [Option.bind_some]
  by_cases h : (decide (1 ≤ (l.length : Int)) && decide ((l.length : Int) ≤ 10)) = true
  · rw [if_pos h]
    have h10 : l.length ≤ 10 := by simp only [Bool.and_eq_true, decide_eq_true_eq] at h; omega
    have := l2Table_l0 l hl hs (l.length + 2097160) (by omega) l.length k 0 (by omega) (by omega) (by omega)
    rw [List.take_zero, List.drop_zero] at this
    simp only [isTab, h, Bool.true_and]
    exact this
  · rw [if_neg h]; simp only [isTab, (Bool.not_eq_true _).mp h, Bool.false_and]
theorem isLetterMarks_eq (s : ByteArray) (hs : s.size ≤ 1048576) : impl_isLetterMarks.f s = some (isMk s 1 5) := by
  unfold impl_isLetterMarks.f
  rw [areMarks_eq s hs]; rfl
theorem isTable_l0 (l : List ByteArray) (hl : l.length ≤ 1048576) (hs : ∀ s ∈ l, s.size ≤ 1048576) (d : Nat) : ∀ (k i : Nat), i ≤ l.length → l.length - i = d → l.length + d < k →
    impl_isTable.l0 k l (l.length : Int) (i : Int) l = some (goodT (l.take i) (l.drop i) && (decide (1 ≤ (l.length : Int)) && decide ((l.length : Int) ≤ 10))) := by
  induction d with
  | zero =>
    intro k i hi hd hk
    obtain ⟨k, rfl⟩ := pred_of_lt hk
    simp only [impl_isTable.l0]; rw [if_neg (by omega), List.drop_eq_nil_of_le (by omega), in_eq]
    simp [goodT]
  | succ d ih =>
    intro k i hi hd hk
    obtain ⟨k, rfl⟩ := pred_of_lt hk
    have hlt : i < l.length := by omega
    have hz := hs _ (List.getElem_mem hlt)
    have c1 : (i : Int) ≤ (l.length : Int) := by omega
    rw [drop_cons l i hlt]
    simp only [impl_isTable.l0]; rw [if_pos (by omega), if_pos (by omega), if_pos (by omega), rdS_get l i hlt, isLetterMarks_eq _ hz]
    simp only [Option.bind_some, goodT]
    by_cases h1 : isMk l[i] 1 5 = true
    · rw [if_pos h1, h1, Bool.true_and, if_pos c1, Int.toNat_natCast, sContains_eq _ (by rw [List.length_take]; omega) _ k (by rw [List.length_take]; omega)]
      simp only [Option.bind_some]
      by_cases h2 : has (l.take i) l[i] = true
      · rw [if_pos h2, h2]; simp
      · rw [if_neg h2, (Bool.not_eq_true _).mp h2, wr (by omega) (by omega)]
        have e : ((i : Int) + 1) = ((i + 1 : Nat) : Int) := by omega
        rw [e, ih k (i + 1) (by omega) (by omega) (by omega), take_snoc l i hlt]
        simp
    · rw [if_neg h1, (Bool.not_eq_true _).mp h1]; simp
theorem isTable_eq (l : List ByteArray) (hl : l.length ≤ 1048576) (hs : ∀ s ∈ l, s.size ≤ 1048576) (k : Nat) (hk : 4194400 ≤ k) : impl_isTable.f k l = some (isTab l) := by
  unfold impl_isTable.f
  have := isTable_l0 l hl hs l.length k 0 (by omega) (by omega) (by omega)
  rw [List.take_zero, List.drop_zero] at this
  rw [show isTab l = (goodT [] l && (decide (1 ≤ (l.length : Int)) && decide ((l.length : Int) ≤ 10))) from Bool.and_comm _ _]
  exact this
/-! a text as a list of bytes, and as a list of numbers -/
def txt (l : List UInt8) : ByteArray := ⟨l.toArray⟩
theorem txt_data (l : List UInt8) : (txt l).data.toList = l := rfl
theorem txt_size (l : List UInt8) : (txt l).size = l.length := by rw [← size_data, txt_data]
theorem txt_of (s : ByteArray) : txt s.data.toList = s := rfl
theorem txt_app (l m : List UInt8) : txt l ++ txt m = txt (l ++ m) := by
  apply ByteArray.ext
  apply Array.toList_inj.1
  rw [ByteArray.data_append, Array.toList_append]
  rfl
/-! texts joined by one byte -/
/-- the texts joined -/
def joinB (c : UInt8) (l : List ByteArray) : ByteArray := txt (Lib.join (l.map (·.data.toList)) [c])
theorem joinL_snoc (c : List UInt8) (l : List (List UInt8)) (x : List UInt8) (h : l ≠ []) : Lib.join (l ++ [x]) c = Lib.join l c ++ c ++ x := by
  unfold Lib.join
  induction l with
  | nil => exact absurd rfl h
  | cons a l ih =>
    cases l with
    | nil => simp [List.intercalate, List.intersperse]
    | cons b l =>
      have := ih (by simp)
      simp only [List.intercalate, List.cons_append, List.intersperse, List.flatten_cons] at this ⊢
      rw [this]; simp
theorem joinB_one (c : UInt8) (x : ByteArray) : joinB c [x] = x := by
  unfold joinB
  rw [List.map_cons, List.map_nil, Lib.join_one, txt_of]
theorem joinB_snoc (c : UInt8) (l : List ByteArray) (x : ByteArray) (h : l ≠ []) : joinB c (l ++ [x]) = (joinB c l ++ ⟨#[c]⟩) ++ x := by
  unfold joinB
  rw [List.map_append, List.map_cons, List.map_nil, joinL_snoc _ _ _ (by simpa using h)]
  rw [← txt_app, ← txt_app, txt_of]; rfl
/-- how much the joined texts take -/
def sumZ (l : List ByteArray) : Int := (l.map fun s => (s.size : Int)).sum
theorem sumZ_snoc (l : List ByteArray) (x : ByteArray) : sumZ (l ++ [x]) = sumZ l + (x.size : Int) := by simp [sumZ]
theorem sumZ_nonneg (l : List ByteArray) : 0 ≤ sumZ l := by
  induction l with
  | nil => simp [sumZ]
  | cons a l ih => simp only [sumZ, List.map_cons, List.sum_cons] at ih ⊢; omega
theorem joinL_len (c : UInt8) : ∀ l : List (List UInt8), l ≠ [] → (Lib.join l [c]).length + 1 = (l.map fun s => s.length + 1).sum
  | [], h => absurd rfl h
  | [a], _ => by rw [Lib.join_one]; simp
  | a :: b :: l, _ => by
    have ih := joinL_len c (b :: l) (by simp)
    have e : Lib.join (a :: b :: l) [c] = a ++ ([c] ++ Lib.join (b :: l) [c]) := by
      unfold Lib.join
      simp [List.intercalate, List.intersperse]
    rw [e, List.length_append, List.length_append, List.map_cons, List.sum_cons, ← ih, List.length_singleton]
    omega
theorem sums (l : List ByteArray) : ((((l.map (·.data.toList)).map fun s => s.length + 1).sum : Nat) : Int) = sumZ l + (l.length : Int) := by
  induction l with
  | nil => rfl
  | cons a l ih =>
    have := size_data a
    simp only [sumZ, List.map_cons, List.sum_cons, List.length_cons] at ih ⊢
    omega
theorem joinB_size (c : UInt8) (l : List ByteArray) (h : l ≠ []) : ((joinB c l).size : Int) = sumZ l + ((l.length : Int) - 1) := by
  have h1 := joinL_len c (l.map (·.data.toList)) (by simpa using h)
  have h2 := sums l
  have h3 : (joinB c l).size = (Lib.join (l.map (·.data.toList)) [c]).length := txt_size _
  omega
theorem sumZ_append (l m : List ByteArray) : sumZ (l ++ m) = sumZ l + sumZ m := by simp [sumZ]
theorem sumZ_take (l : List ByteArray) (i : Nat) : sumZ (l.take i) ≤ sumZ l := by
  have h := sumZ_append (l.take i) (l.drop i)
  rw [List.take_append_drop] at h
  have := sumZ_nonneg (l.drop i)
  omega
theorem sumZ_le (l : List ByteArray) (h : ∀ s ∈ l, s.size ≤ 1048576) : sumZ l ≤ 1048576 * (l.length : Int) := by
  induction l with
  | nil => simp [sumZ]
  | cons a l ih =>
    have h1 := ih fun s hs => h s (List.mem_cons_of_mem _ hs)
    have h2 := h a List.mem_cons_self
    simp only [sumZ, List.map_cons, List.sum_cons, List.length_cons] at h1 ⊢
    omega
theorem sumZ_nil : sumZ [] = 0 := rfl
attribute [local irreducible] sumZ
theorem take_snocB (l : List ByteArray) (i : Nat) (h : i < l.length) : l.take (i + 1) = l.take i ++ [l[i]] := List.take_succ_eq_append_getElem h
theorem join_full (c : UInt8) (l : List ByteArray) (hl : l.length ≤ 1048576) (h : l ≠ []) (hz : sumZ l + ((l.length : Int) - 1) ≤ 100000000000) : strings_Join.f l ⟨#[c]⟩ = some (joinB c l) := by
  have hs := joinB_size c l h
  have hsz : (joinB c l).size = (Lib.join (l.map (·.data.toList)) [c]).length := txt_size _
  unfold strings_Join.f
  rw [if_pos (by omega)]
  show (if (Lib.join (l.map (·.data.toList)) [c]).length ≤ 140737488355328 then some (joinB c l) else none) = _
  rw [if_pos (by omega)]
/-! a text's pieces between the bytes that part them -/
theorem ext_list (s : ByteArray) (i : Nat) : (s.extract i s.size).data.toList = s.data.toList.drop i := by
  rw [ByteArray.data_extract, Array.toList_extract, List.extract_eq_take_drop, List.take_of_length_le]
  have := size_data s
  rw [List.length_drop]; omega
theorem indexByte_is (l : List UInt8) (c : UInt8) (m : Nat) (h1 : l[m]? = some c) (h2 : ∀ k, k < m → l[k]? ≠ some c) : Lib.indexByte l c = (m : Int) := by
  have hge := Lib.indexByte_ge l c
  by_cases hn : Lib.indexByte l c = -1
  · exact absurd h1 (Lib.indexByte_none hn m)
  · obtain ⟨o, ho⟩ : ∃ o : Nat, Lib.indexByte l c = (o : Int) := ⟨(Lib.indexByte l c).toNat, by omega⟩
    obtain ⟨a1, a2⟩ := Lib.indexByte_some ho
    have : o = m := by
      rcases Nat.lt_trichotomy o m with h | h | h
      · exact absurd a1 (h2 o h)
      · exact h
      · exact absurd h1 (a2 m h)
    rw [ho, this]
theorem indexByte_not (l : List UInt8) (c : UInt8) (h2 : ∀ k : Nat, l[k]? ≠ some c) : Lib.indexByte l c = -1 := by
  have hge := Lib.indexByte_ge l c
  by_cases hn : Lib.indexByte l c = -1
  · exact hn
  · obtain ⟨o, ho⟩ : ∃ o : Nat, Lib.indexByte l c = (o : Int) := ⟨(Lib.indexByte l c).toNat, by omega⟩
    exact absurd (Lib.indexByte_some ho).1 (h2 o)
/-- the pieces -/
def pieces (s : ByteArray) (c : UInt8) : List ByteArray := Lib.splitB ⟨#[c]⟩ 0 (Lib.countB s ⟨#[c]⟩) s
theorem pieces_end (s : ByteArray) (c : UInt8) (i : Nat) (h : ∀ k, i ≤ k → s.data.toList[k]? ≠ some c) : pieces (s.extract i s.size) c = [s.extract i s.size] := by
  unfold pieces
  refine Lib.splitB_miss _ _ _ _ ?_
  rw [strings_Split.idx]
  refine indexByte_not _ _ fun k => ?_
  rw [ext_list, List.getElem?_drop]
  exact h _ (by omega)
theorem pieces_hit (s : ByteArray) (c : UInt8) (i j : Nat) (hij : i ≤ j) (hj : j < s.size) (h1 : s.data.toList[j]? = some c) (h2 : ∀ k, i ≤ k → k < j → s.data.toList[k]? ≠ some c) :
    pieces (s.extract i s.size) c = s.extract i j :: pieces (s.extract (j + 1) s.size) c := by
  have hi : Lib.indexB (s.extract i s.size) ⟨#[c]⟩ = ((j - i : Nat) : Int) := by
    rw [strings_Split.idx]
    refine indexByte_is _ _ _ ?_ fun k hk => ?_
    · rw [ext_list, List.getElem?_drop, show i + (j - i) = j by omega]; exact h1
    · rw [ext_list, List.getElem?_drop]; exact h2 _ (by omega) (by omega)
  have hz : (s.extract i s.size).size = s.size - i := by rw [ByteArray.size_extract, Nat.min_self]
  have e1 : (s.extract i s.size).extract (j - i + (⟨#[c]⟩ : ByteArray).size) (s.extract i s.size).size = s.extract (j + 1) s.size := by
    rw [ByteArray.extract_extract, hz]
    show s.extract (i + (j - i + 1)) (min (i + (s.size - i)) s.size) = _
    rw [show i + (j - i + 1) = j + 1 by omega, show min (i + (s.size - i)) s.size = s.size by omega]
  have e2 : (s.extract i s.size).extract 0 (j - i + 0) = s.extract i j := by
    rw [ByteArray.extract_extract, show i + 0 = i by omega, show min (i + (j - i + 0)) s.size = j by omega]
  unfold pieces
  rw [Lib.countB_hit (s.extract i s.size) (⟨#[c]⟩ : ByteArray) (j - i) (Nat.le_refl 1) hi, e1, Nat.add_comm, Lib.splitB_hit _ _ _ _ _ hi, e1, e2]
theorem getL (s : ByteArray) (j : Nat) (h : j < s.size) : s.data.toList[j]? = some (s.data.toList[j]'(by rw [size_data]; exact h)) := List.getElem?_eq_getElem _
theorem l1Split_l0 (s : ByteArray) (hs : s.size ≤ 1048576) (c : UInt8) (d : Nat) : ∀ (k i j : Nat) (x : List ByteArray), i ≤ j → j ≤ s.size → s.size - j = d → d < k → x.length ≤ j → (∀ m, i ≤ m → m < j → s.data.toList[m]? ≠ some c) →
    spec_l1Split.l0 k s (c.toNat : Int) x (i : Int) (j : Int) = some (x ++ pieces (s.extract i s.size) c) := by
  have hsz := size_data s
  induction d with
  | zero =>
    intro k i j x hij hj hd hk hx hn
    obtain ⟨k, rfl⟩ := pred_of_lt hk
    simp only [spec_l1Split.l0]
    rw [if_neg (by omega), if_pos (by omega), if_pos (by omega), if_pos (by omega), pieces_end s c i (fun m hm => by
      by_cases h : m < j
      · exact hn m hm h
      · rw [List.getElem?_eq_none (by omega)]; exact fun h => by cases h), Int.toNat_natCast]
  | succ d ih =>
    intro k i j x hij hj hd hk hx hn
    obtain ⟨k, rfl⟩ := pred_of_lt hk
    have c1 : (j : Int) < (s.size : Int) := by omega
    have c2 : (0 : Int) ≤ (j : Int) := by omega
    have e1 : wrap64 ((j : Int) + 1) = ((j + 1 : Nat) : Int) := by rw [wr (by omega) (by omega)]; omega
    simp only [spec_l1Split.l0, c1, c2, if_true, e1, Int.toNat_natCast]
    by_cases hc : bt s (j : Int) = (c.toNat : Int)
    · rw [if_pos hc, if_pos (by omega), if_pos (by omega), if_pos (by omega), if_pos (by omega)]
      rw [bt_is s j (by omega) c _ rfl] at hc
      rw [ih k (j + 1) (j + 1) _ (by omega) (by omega) (by omega) (by omega) (by simp; omega) (fun m h1 h2 => by omega),
        pieces_hit s c i j hij (by omega) (by rw [getL s j (by omega), hc]) hn, List.append_assoc]
      rfl
    · rw [if_neg hc]
      rw [bt_is s j (by omega) c _ rfl] at hc
      exact ih k i (j + 1) x (by omega) (by omega) (by omega) (by omega) (by omega) (fun m h1 h2 => by
        by_cases h : m = j
        · subst h; rw [getL s m (by omega)]; exact fun h => hc (Option.some.inj h)
        · exact hn m h1 (by omega))
theorem whole (s : ByteArray) : s.extract 0 s.size = s := ByteArray.extract_zero_size
theorem l1Split_eq (s : ByteArray) (hs : s.size ≤ 1048576) (c : UInt8) (k : Nat) (hk : s.size < k) : spec_l1Split.f k s (c.toNat : Int) = some (pieces s c) := by
  unfold spec_l1Split.f
  have := l1Split_l0 s hs c s.size k 0 0 [] (by omega) (by omega) (by omega) hk (by simp) (fun m h1 h2 => by omega)
  rw [whole] at this
  simpa using this
theorem iSplit_eq (s : ByteArray) (hs : s.size ≤ 1048576) (c : UInt8) : strings_Split.f s ⟨#[c]⟩ = some (pieces s c) := by
  show (if s.size < 4294967281 then some (Lib.splitB ⟨#[c]⟩ 0 (Lib.countB s ⟨#[c]⟩) s) else none) = _
  rw [if_pos (by omega)]; rfl
theorem pieces_len (s : ByteArray) (c : UInt8) : (pieces s c).length ≤ s.size + 1 := by
  unfold pieces
  have := Lib.countB_le (⟨#[c]⟩ : ByteArray) (Nat.le_refl 1) s.size s (Nat.le_refl _)
  have := Lib.splitB_all (⟨#[c]⟩ : ByteArray) (Nat.le_refl 1) 0 _ s rfl
  omega
theorem one_byte (a : ByteArray) (h : (a.size : Int) = 1) : ∃ c : UInt8, a = ⟨#[c]⟩ := by
  obtain ⟨⟨l⟩⟩ := a
  match l, h with
  | [c], _ => exact ⟨c, rfl⟩
/-! a signal, as both sides ask for it -/
theorem pieces_step (s : ByteArray) (c : UInt8) : pieces s c = [s] ∨ ∃ o : Nat, o < s.size ∧ pieces s c = s.extract 0 o :: pieces (s.extract (o + 1) s.size) c := by
  have hsz := size_data s
  have hge := Lib.indexByte_ge s.data.toList c
  by_cases hn : Lib.indexByte s.data.toList c = -1
  · refine Or.inl (Lib.splitB_miss _ _ _ _ ?_)
    rw [strings_Split.idx]; exact hn
  · obtain ⟨o, ho⟩ : ∃ o : Nat, Lib.indexByte s.data.toList c = (o : Int) := ⟨(Lib.indexByte s.data.toList c).toNat, by omega⟩
    have h1 := (Lib.indexByte_some ho).1
    have hlt : o < s.size := by rw [← hsz]; exact (List.getElem?_eq_some_iff.1 h1).1
    have hi : Lib.indexB s ⟨#[c]⟩ = (o : Int) := by rw [strings_Split.idx]; exact ho
    refine Or.inr ⟨o, hlt, ?_⟩
    unfold pieces
    rw [Lib.countB_hit s (⟨#[c]⟩ : ByteArray) o (Nat.le_refl 1) hi, Nat.add_comm, Lib.splitB_hit _ _ _ _ _ hi]
    rfl
theorem pieces_sum (c : UInt8) : ∀ (n : Nat) (s : ByteArray), s.size ≤ n → ((pieces s c).map fun p => p.size + 1).sum = s.size + 1 := by
  intro n
  induction n with
  | zero =>
    intro s hs
    rcases pieces_step s c with h | ⟨o, ho, h⟩
    · rw [h]; simp
    · omega
  | succ n ih =>
    intro s hs
    rcases pieces_step s c with h | ⟨o, ho, h⟩
    · rw [h]; simp
    · rw [h, List.map_cons, List.sum_cons, ih (s.extract (o + 1) s.size) (by rw [ByteArray.size_extract]; omega), ByteArray.size_extract, ByteArray.size_extract]
      omega
theorem mem_le_sum (f : ByteArray → Nat) : ∀ (l : List ByteArray) (p : ByteArray), p ∈ l → f p ≤ (l.map f).sum
  | [], _, h => by cases h
  | a :: l, p, h => by
    rw [List.map_cons, List.sum_cons]
    rcases List.mem_cons.1 h with h | h
    · rw [h]; omega
    · have := mem_le_sum f l p h; omega
theorem piece_size (s : ByteArray) (c : UInt8) (p : ByteArray) (h : p ∈ pieces s c) : p.size ≤ s.size := by
  have h1 := mem_le_sum (fun p => p.size + 1) _ p h
  rw [pieces_sum c s.size s (Nat.le_refl _)] at h1
  omega
def wordsL (s : ByteArray) : List (List ByteArray) := (pieces s 47).map fun w => pieces w 32
theorem l2Words_l0 (P : List ByteArray) (hP : P.length ≤ 1048577) (hs : ∀ p ∈ P, p.size ≤ 1048576) (d : Nat) : ∀ (k i : Nat), i ≤ P.length → P.length - i = d → d + 1048577 < k →
    spec_l2Words.l0 k ((P.take i).map fun w => pieces w 32) P (i : Int) = some (P.map fun w => pieces w 32) := by
  induction d with
  | zero =>
    intro k i hi hd hk
    obtain ⟨k, rfl⟩ := pred_of_lt hk
    simp only [spec_l2Words.l0]
    rw [if_neg (by omega), List.take_of_length_le (by omega)]
  | succ d ih =>
    intro k i hi hd hk
    obtain ⟨k, rfl⟩ := pred_of_lt hk
    have hlt : i < P.length := by omega
    obtain ⟨p, hp, hget, hsn⟩ : ∃ p : ByteArray, p.size ≤ 1048576 ∧ rdOf ByteArray.empty P (i : Int) = p ∧ (P.take (i + 1)).map (fun w => pieces w 32) = (P.take i).map (fun w => pieces w 32) ++ [pieces p 32] :=
      ⟨P[i], hs _ (List.getElem_mem hlt), rdS_get P i hlt, by rw [List.take_succ_eq_append_getElem hlt, List.map_append]; rfl⟩
    have n := ih k (i + 1) hlt (by rw [Nat.sub_add_eq, hd]; rfl) (by omega)
    have hsp := l1Split_eq p hp 32 k (by omega)
    have h32 : (((32 : UInt8).toNat : Nat) : Int) = 32 := rfl
    rw [h32] at hsp
    have hln : ((P.take i).map fun w => pieces w 32).length < 5864062014805 := by rw [List.length_map, List.length_take]; omega
    have c1 : (i : Int) < (P.length : Int) := by omega
    have c2 : (0 : Int) ≤ (i : Int) := by omega
    have e1 : wrap64 ((i : Int) + 1) = ((i + 1 : Nat) : Int) := by rw [wr (by omega) (by omega)]; omega
    simp only [spec_l2Words.l0, c1, c2, if_true, hget, hsp, Option.bind_some, hln, e1]
    rw [← hsn]; exact n
theorem l2Words_eq (s : ByteArray) (hs : s.size ≤ 1048576) (k : Nat) (hk : 2097200 ≤ k) : spec_l2Words.f k s = some (wordsL s) := by
  unfold spec_l2Words.f
  have h47 : (((47 : UInt8).toNat : Nat) : Int) = 47 := rfl
  have hsp := l1Split_eq s hs 47 k (by omega)
  rw [h47] at hsp
  rw [hsp]
  simp only [Option.bind_some]
  have hl := pieces_len s 47
  exact l2Words_l0 (pieces s 47) (by omega) (fun p hp => by have := piece_size s 47 p hp; omega) (pieces s 47).length k 0 (by omega) (by omega) (by omega)
theorem lettersOf_l0 (P : List ByteArray) (hP : P.length ≤ 1048577) (hs : ∀ p ∈ P, p.size ≤ 1048576) (d : Nat) : ∀ (k i : Nat), i ≤ P.length → P.length - i = d → d < k →
    impl_lettersOf.l0 k ((P.take i).map fun w => pieces w 32) P (P.length : Int) (i : Int) = some (P.map fun w => pieces w 32) := by
  induction d with
  | zero =>
    intro k i hi hd hk
    obtain ⟨k, rfl⟩ := pred_of_lt hk
    simp only [impl_lettersOf.l0]
    rw [if_neg (by omega), List.take_of_length_le (by omega)]
  | succ d ih =>
    intro k i hi hd hk
    obtain ⟨k, rfl⟩ := pred_of_lt hk
    have hlt : i < P.length := by omega
    obtain ⟨p, hp, hget, hsn⟩ : ∃ p : ByteArray, p.size ≤ 1048576 ∧ rdOf ByteArray.empty P (i : Int) = p ∧ (P.take (i + 1)).map (fun w => pieces w 32) = (P.take i).map (fun w => pieces w 32) ++ [pieces p 32] :=
      ⟨P[i], hs _ (List.getElem_mem hlt), rdS_get P i hlt, by rw [List.take_succ_eq_append_getElem hlt, List.map_append]; rfl⟩
    have n := ih k (i + 1) hlt (by rw [Nat.sub_add_eq, hd]; rfl) (by omega)
    have hsp := iSplit_eq p hp 32
    have hln : ((P.take i).map fun w => pieces w 32).length < 5864062014805 := by rw [List.length_map, List.length_take]; omega
    have c1 : (i : Int) < (P.length : Int) := by omega
    have c2 : (0 : Int) ≤ (i : Int) := by omega
    have e1 : wrap64 ((i : Int) + 1) = ((i + 1 : Nat) : Int) := by rw [wr (by omega) (by omega)]; omega
    simp only [impl_lettersOf.l0, c1, c2, if_true, hget, hsp, Option.bind_some, hln, e1]
    rw [← hsn]; exact n
theorem isNil (s : ByteArray) : (s.toList = ([] : List UInt8)) ↔ s.size = 0 := by
  rw [ByteArray.toList_eq, ← size_data s]
  exact List.length_eq_zero_iff.symm
def wordsI (s : ByteArray) : List (List ByteArray) := if s.size = 0 then [] else wordsL s
theorem lettersOf_eq (s : ByteArray) (hs : s.size ≤ 1048576) (k : Nat) (hk : 1048580 ≤ k) : impl_lettersOf.f k s = some (wordsI s) := by
  unfold impl_lettersOf.f wordsI
  simp only [Option.bind_some, isNil]
  by_cases h : s.size = 0
  · rw [if_pos h, if_pos h]
  · rw [if_neg h, if_neg h, iSplit_eq s hs 47]
    simp only [Option.bind_some]
    have hl := pieces_len s 47
    exact lettersOf_l0 (pieces s 47) (by omega) (fun p hp => by have := piece_size s 47 p hp; omega) (pieces s 47).length k 0 (by omega) (by omega) (by omega)
/-- every letter is marks; and how many letters and breaks there are -/
def okL (w : List ByteArray) : Bool := w.all fun s => isMk s 1 5
def okW (W : List (List ByteArray)) : Bool := W.all okL
def cntW (W : List (List ByteArray)) : Nat := (W.map fun w => w.length).sum
theorem cntW_cons (w : List ByteArray) (W : List (List ByteArray)) : cntW (w :: W) = w.length + cntW W := by simp [cntW]
theorem rdL_get (W : List (List ByteArray)) (i : Nat) (h : i < W.length) : rd_L1 W (i : Int) = W[i] := by simp [rd_L1, h]
theorem sSig_l1 (W : List (List ByteArray)) (i : Nat) (hi : i < W.length) (hWl : W.length ≤ 1048577) (w : List ByteArray) (hw : rd_L1 W (i : Int) = w) (hwl : w.length ≤ 1048577) (hws : ∀ s ∈ w, s.size ≤ 1048576) (x4 : Int) (h0 : 0 ≤ x4) (h4 : x4 ≤ 1099511627776) (q : Nat) (hq : 2097160 ≤ q) (d : Nat) : ∀ (m j : Nat), m = q + d + 1 → j ≤ w.length → w.length - j = d →
    spec_l2Signal.l1 m W x4 (i : Int) (j : Int) = if okL (w.drop j) = true then spec_l2Signal.l0 q W (x4 + (w.length : Int) + 1) ((i + 1 : Nat) : Int) else some false := by
  have ci1 : (i : Int) < (W.length : Int) := by omega
  have ci0 : (0 : Int) ≤ (i : Int) := by omega
  have ex : wrap64 (wrap64 (x4 + (w.length : Int)) + 1) = x4 + (w.length : Int) + 1 := by rw [wr (i := x4 + (w.length : Int)) (by omega) (by omega), wr (by omega) (by omega)]
  have ei : wrap64 ((i : Int) + 1) = ((i + 1 : Nat) : Int) := by clear ex; rw [wr (by omega) (by omega)]; omega
  induction d with
  | zero =>
    intro m j hm hj hd
    subst hm
    have hjl : j = w.length := by clear ei ex; omega
    have cj : ¬ (j : Int) < (w.length : Int) := by clear ei ex; omega
    simp only [spec_l2Signal.l1, Nat.add_zero, ci0, ci1, if_true, hw, cj, if_false, ei, ex]
    rw [hjl, List.drop_length, if_pos (show okL [] = true from rfl)]
  | succ d ih =>
    intro m j hm hj hd
    obtain ⟨m, rfl⟩ : ∃ m', m = m' + 1 := ⟨q + d + 1, by clear ei ex ih; omega⟩
    have hmq : 2097160 ≤ m := by clear ei ex ih; omega
    have hlt : j < w.length := by clear ei ex ih; omega
    obtain ⟨s, hs, hget, hdrop⟩ : ∃ s : ByteArray, s.size ≤ 1048576 ∧ rdOf ByteArray.empty w (j : Int) = s ∧ okL (w.drop j) = (isMk s 1 5 && okL (w.drop (j + 1))) := ⟨w[j], hws _ (List.getElem_mem hlt), rdS_get w j hlt, by rw [List.drop_eq_getElem_cons hlt]; rfl⟩
    have n := ih m (j + 1) (Nat.succ.inj hm) hlt (by rw [Nat.sub_add_eq, hd]; rfl)
    have c1 : (j : Int) < (w.length : Int) := by clear ei ex ih n; omega
    have c2 : (0 : Int) ≤ (j : Int) := by clear ei ex ih n; omega
    have hmk := l2Marks_eq s hs 1 5 m (by clear ei ex ih n; omega)
    have e1 : wrap64 ((j : Int) + 1) = ((j + 1 : Nat) : Int) := by clear ei ex ih n; rw [wr (by omega) (by omega)]; omega
    simp only [spec_l2Signal.l1, ci0, ci1, c1, c2, if_true, hw, hget, hmk, Option.bind_some, e1, hdrop]
    by_cases hmk2 : isMk s 1 5 = true
    · rw [if_pos hmk2, n, hmk2, Bool.true_and]
    · rw [if_neg hmk2, (Bool.not_eq_true _).mp hmk2, Bool.false_and, if_neg (by decide)]
theorem iSig_l1 (W : List (List ByteArray)) (i : Nat) (hi : i < W.length) (hWl : W.length ≤ 1048577) (w : List ByteArray) (hwl : w.length ≤ 1048577) (hws : ∀ s ∈ w, s.size ≤ 1048576) (x4 : Int) (q : Nat) (d : Nat) : ∀ (m j : Nat), m = q + d + 1 → j ≤ w.length → w.length - j = d →
    impl_isSignal.l1 m x4 W (W.length : Int) (i : Int) w (w.length : Int) (j : Int) = if okL (w.drop j) = true then impl_isSignal.l0 q x4 W (W.length : Int) ((i + 1 : Nat) : Int) else some false := by
  have ei : wrap64 ((i : Int) + 1) = ((i + 1 : Nat) : Int) := by rw [wr (by omega) (by omega)]; omega
  induction d with
  | zero =>
    intro m j hm hj hd
    subst hm
    have hjl : j = w.length := by clear ei; omega
    have cj : ¬ (j : Int) < (w.length : Int) := by clear ei; omega
    simp only [impl_isSignal.l1, Nat.add_zero, cj, if_false, ei]
    rw [hjl, List.drop_length, if_pos (show okL [] = true from rfl)]
  | succ d ih =>
    intro m j hm hj hd
    obtain ⟨m, rfl⟩ : ∃ m', m = m' + 1 := ⟨q + d + 1, by clear ei ih; omega⟩
    have hlt : j < w.length := by clear ei ih; omega
    obtain ⟨s, hs, hget, hdrop⟩ : ∃ s : ByteArray, s.size ≤ 1048576 ∧ rdOf ByteArray.empty w (j : Int) = s ∧ okL (w.drop j) = (isMk s 1 5 && okL (w.drop (j + 1))) := ⟨w[j], hws _ (List.getElem_mem hlt), rdS_get w j hlt, by rw [List.drop_eq_getElem_cons hlt]; rfl⟩
    have n := ih m (j + 1) (Nat.succ.inj hm) hlt (by rw [Nat.sub_add_eq, hd]; rfl)
    have c1 : (j : Int) < (w.length : Int) := by clear ei ih n; omega
    have c2 : (0 : Int) ≤ (j : Int) := by clear ei ih n; omega
    have hmk : impl_isLetterMarks.f s = some (isMk s 1 5) := by
      unfold impl_isLetterMarks.f
      rw [areMarks_eq s hs 1 5]; rfl
    have e1 : wrap64 ((j : Int) + 1) = ((j + 1 : Nat) : Int) := by clear ei ih n; rw [wr (by omega) (by omega)]; omega
    simp only [impl_isSignal.l1, c1, c2, if_true, hget, hmk, Option.bind_some, e1, hdrop]
    by_cases hmk2 : isMk s 1 5 = true
    · rw [if_pos hmk2, n, hmk2, Bool.true_and]
    · rw [if_neg hmk2, (Bool.not_eq_true _).mp hmk2, Bool.false_and, if_neg (by decide)]
def fuW (W : List (List ByteArray)) : Nat := (W.map fun w => w.length + 2).sum
theorem fuW_eq (W : List (List ByteArray)) : fuW W = cntW W + 2 * W.length := by
  induction W with
  | nil => rfl
  | cons w W ih => simp only [fuW, cntW, List.map_cons, List.sum_cons, List.length_cons] at ih ⊢; omega
theorem sig_l0 (W : List (List ByteArray)) (hWl : W.length ≤ 1048577) (hW : ∀ w ∈ W, w.length ≤ 1048577 ∧ ∀ s ∈ w, s.size ≤ 1048576) (q0 : Nat) (hq0 : 2097160 ≤ q0) (d : Nat) : ∀ (m i : Nat) (x4 y4 : Int), m = q0 + fuW (W.drop i) + 1 → i ≤ W.length → W.length - i = d → 0 ≤ x4 → x4 + (cntW (W.drop i) : Int) + ((W.drop i).length : Int) ≤ 1099511627776 → -1 ≤ y4 → y4 + (cntW (W.drop i) : Int) ≤ 1099511627776 →
    spec_l2Signal.l0 m W x4 (i : Int) = some (okW (W.drop i) && decide (x4 + (cntW (W.drop i) : Int) + ((W.drop i).length : Int) - 1 ≤ 12)) ∧
    impl_isSignal.l0 m y4 W (W.length : Int) (i : Int) = some (okW (W.drop i) && decide (y4 + (cntW (W.drop i) : Int) ≤ 12)) := by
  induction d with
  | zero =>
    intro m i x4 y4 hm hi hd h0 hx hy0 hy
    subst hm
    have hil : i = W.length := by omega
    have hdr : W.drop i = [] := by rw [hil, List.drop_length]
    rw [hdr] at hx hy ⊢
    have hc : cntW [] = 0 := rfl
    have hl : ([] : List (List ByteArray)).length = 0 := rfl
    have ho : okW [] = true := rfl
    rw [hc, hl] at hx ⊢
    rw [hc] at hy
    have ci : ¬ (i : Int) < (W.length : Int) := by omega
    simp only [spec_l2Signal.l0, impl_isSignal.l0, ci, if_false, ho, Bool.true_and]
    rw [wr (by omega) (by omega)]
    refine ⟨congrArg some (decide_eq_decide.2 ?_), congrArg some (decide_eq_decide.2 ?_)⟩ <;> omega
  | succ d ih =>
    intro m i x4 y4 hm hi hd h0 hx hy0 hy
    have hlt : i < W.length := by omega
    obtain ⟨w, hwl, hws, hget, hdr⟩ : ∃ w : List ByteArray, w.length ≤ 1048577 ∧ (∀ s ∈ w, s.size ≤ 1048576) ∧ rd_L1 W (i : Int) = w ∧ W.drop i = w :: W.drop (i + 1) := ⟨W[i], (hW _ (List.getElem_mem hlt)).1, (hW _ (List.getElem_mem hlt)).2, rdL_get W i hlt, List.drop_eq_getElem_cons hlt⟩
    rw [hdr] at hm hx hy ⊢
    rw [cntW_cons, List.length_cons] at hx
    rw [cntW_cons] at hy
    have hfu : fuW (w :: W.drop (i + 1)) = w.length + 2 + fuW (W.drop (i + 1)) := by simp [fuW]
    rw [hfu] at hm
    obtain ⟨q, hq⟩ : ∃ q, q = q0 + fuW (W.drop (i + 1)) + 1 := ⟨_, rfl⟩
    obtain ⟨m, rfl⟩ : ∃ m', m = m' + 1 := ⟨q + w.length + 1, by omega⟩
    have s := sSig_l1 W i hlt hWl w hget hwl hws x4 h0 (by omega) q (by omega) w.length m 0 (by omega) (by omega) (by omega)
    have t := iSig_l1 W i hlt hWl w hwl hws (y4 + (w.length : Int)) q w.length m 0 (by omega) (by omega) (by omega)
    have n := ih q (i + 1) (x4 + (w.length : Int) + 1) (y4 + (w.length : Int)) hq hlt (by omega) (by omega) (by omega) (by omega) (by omega)
    rw [List.drop_zero, n.1] at s
    rw [List.drop_zero, n.2] at t
    have ci : (i : Int) < (W.length : Int) := by omega
    have c0 : (0 : Int) ≤ (i : Int) := by omega
    have ey : wrap64 (y4 + (w.length : Int)) = y4 + (w.length : Int) := by rw [wr (by omega) (by omega)]
    have hz : ((0 : Nat) : Int) = 0 := rfl
    rw [hz] at s t
    have hok : okW (w :: W.drop (i + 1)) = (okL w && okW (W.drop (i + 1))) := rfl
    rw [hok, cntW_cons, List.length_cons]
    simp only [spec_l2Signal.l0, impl_isSignal.l0, ci, c0, if_true, hget, ey, s, t]
    clear ey s t n ih
    by_cases ho : okL w = true
    · rw [if_pos ho, if_pos ho, ho, Bool.true_and]
      refine ⟨congrArg some (congrArg (okW (W.drop (i + 1)) && ·) (decide_eq_decide.2 ?_)), congrArg some (congrArg (okW (W.drop (i + 1)) && ·) (decide_eq_decide.2 ?_))⟩ <;> omega
    · rw [if_neg ho, if_neg ho, (Bool.not_eq_true _).mp ho]
      exact ⟨rfl, rfl⟩
theorem wordsL_cnt (s : ByteArray) : cntW (wordsL s) ≤ s.size + 1 := by
  have h := pieces_sum 47 s.size s (Nat.le_refl _)
  unfold wordsL cntW
  rw [List.map_map]
  have : ∀ P : List ByteArray, (P.map ((fun w => w.length) ∘ fun w => pieces w 32)).sum ≤ (P.map fun p => p.size + 1).sum := by
    intro P
    induction P with
    | nil => exact Nat.le_refl _
    | cons p P ih =>
      have := pieces_len p 32
      simp only [List.map_cons, List.sum_cons, Function.comp] at ih ⊢; omega
  have := this (pieces s 47)
  omega
theorem okL_size (w : List ByteArray) (h : okL w = true) : (w.map fun p => p.size + 1).sum ≤ 6 * w.length := by
  induction w with
  | nil => exact Nat.le_refl _
  | cons a w ih =>
    simp only [okL, List.all_cons, Bool.and_eq_true] at h ih
    have h1 := ih h.2
    have h2 : a.size ≤ 5 := by
      have := h.1
      simp only [isMk, Bool.and_eq_true, decide_eq_true_eq] at this
      omega
    simp only [List.map_cons, List.sum_cons, List.length_cons]; omega
theorem okW_size (s : ByteArray) (h : okW (wordsL s) = true) : s.size + 1 ≤ 6 * cntW (wordsL s) := by
  have h47 := pieces_sum 47 s.size s (Nat.le_refl _)
  have : ∀ P : List ByteArray, okW (P.map fun w => pieces w 32) = true → (P.map fun p => p.size + 1).sum ≤ 6 * cntW (P.map fun w => pieces w 32) := by
    intro P
    induction P with
    | nil => intro _; exact Nat.le_refl _
    | cons p P ih =>
      intro ho
      simp only [okW, List.map_cons, List.all_cons, Bool.and_eq_true] at ho ih
      have h1 := ih ho.2
      have h2 := okL_size _ ho.1
      rw [pieces_sum 32 p.size p (Nat.le_refl _)] at h2
      rw [List.map_cons, List.map_cons, List.sum_cons, cntW_cons]; omega
  have := this (pieces s 47) h
  unfold wordsL; omega
def isSig (s : ByteArray) : Bool := if s.size = 0 then true else if s.size > 72 then false else okW (wordsL s) && decide ((cntW (wordsL s) : Int) + ((wordsL s).length : Int) - 1 ≤ 12)
theorem wordsL_bounds (s : ByteArray) (hs : s.size ≤ 1048576) : (wordsL s).length ≤ 1048577 ∧ ∀ w ∈ wordsL s, w.length ≤ 1048577 ∧ ∀ x ∈ w, x.size ≤ 1048576 := by
  refine ⟨?_, fun w hw => ?_⟩
  · have := pieces_len s 47
    unfold wordsL; rw [List.length_map]; omega
  · unfold wordsL at hw
    obtain ⟨p, hp, rfl⟩ := List.mem_map.1 hw
    have h1 := piece_size s 47 p hp
    have h2 := pieces_len p 32
    exact ⟨by omega, fun x hx => by have := piece_size p 32 x hx; omega⟩
theorem isSig_both (s : ByteArray) (hs : s.size ≤ 1048576) (k : Nat) (hk : 8388640 ≤ k) : spec_l2Signal.f k s = some (isSig s) ∧ impl_isSignal.f k s = some (isSig s) := by
  obtain ⟨b1, b2⟩ := wordsL_bounds s hs
  have hcnt := wordsL_cnt s
  have hfu := fuW_eq (wordsL s)
  unfold spec_l2Signal.f impl_isSignal.f isSig
  rw [lettersOf_eq s hs k (by omega)]
  simp only [isNil, Option.bind_some]
  by_cases h0 : s.size = 0
  · rw [if_pos h0, if_pos h0]
    refine ⟨rfl, ?_⟩
    have e : wordsI s = [] := by unfold wordsI; rw [if_pos h0]
    obtain ⟨k, rfl⟩ : ∃ m, k = m + 1 := ⟨k - 1, by omega⟩
    rw [e]
    simp only [impl_isSignal.l0, List.length_nil]
    rw [if_neg (by omega)]
    have hw : wrap64 (((0 : Nat) : Int) - 1) ≤ 12 := by rw [wr (by omega) (by omega)]; omega
    exact congrArg some (decide_eq_true hw)
  · have e : wordsI s = wordsL s := by unfold wordsI; rw [if_neg h0]
    have hl1 : 1 ≤ (wordsL s).length := by
      unfold wordsL
      rw [List.length_map]
      rcases pieces_step s 47 with h | ⟨o, ho, h⟩
      · rw [h]; simp
      · rw [h]; simp
    have both := sig_l0 (wordsL s) b1 b2 (k - fuW (wordsL s) - 1) (by omega) (wordsL s).length k 0 0 (((wordsL s).length : Int) - 1) (by rw [List.drop_zero]; omega) (by omega) (by omega) (by omega) (by rw [List.drop_zero]; omega) (by omega) (by rw [List.drop_zero]; omega)
    rw [List.drop_zero] at both
    have hz : ((0 : Nat) : Int) = 0 := rfl
    rw [hz, Int.zero_add] at both
    rw [if_neg h0, if_neg h0, e, wr (by omega) (by omega), both.2]
    have hcomm : decide (((wordsL s).length : Int) - 1 + (cntW (wordsL s) : Int) ≤ 12) = decide ((cntW (wordsL s) : Int) + ((wordsL s).length : Int) - 1 ≤ 12) := decide_eq_decide.2 (by omega)
    rw [hcomm]
    by_cases h72 : s.size > 72
    · have h72' : (s.size : Int) > 72 := by omega
      rw [if_pos h72', if_pos h72]
      refine ⟨rfl, congrArg some ?_⟩
      by_cases ho : okW (wordsL s) = true
      · have := okW_size s ho
        rw [ho, Bool.true_and, decide_eq_false_iff_not]; omega
      · rw [(Bool.not_eq_true _).mp ho, Bool.false_and]
    · have h72' : ¬ (s.size : Int) > 72 := by omega
      rw [if_neg h72', if_neg h72, l2Words_eq s hs k (by omega)]
      simp only [Option.bind_some]
      exact ⟨both.1, trivial⟩
/-! a signal read by a table, letter after letter -/
theorem app_empty (a : ByteArray) : a ++ (⟨#[]⟩ : ByteArray) = a := by
  apply ByteArray.ext
  rw [ByteArray.data_append]
  exact Array.append_empty
def lt (p : Int) : ByteArray := strOfNums [(wrap64 (97 + p)) % 256]
theorem lt_size (p : Int) : (lt p).size = 1 := rfl
def wd (T : List ByteArray) : List ByteArray → ByteArray → Option ByteArray
  | [], acc => some acc
  | a :: t, acc => if placeN T a < 0 then none else wd T t (acc ++ lt (placeN T a))
theorem wd_app (T : List ByteArray) : ∀ (w : List ByteArray) (a b : ByteArray), wd T w (a ++ b) = (wd T w b).map (a ++ ·)
  | [], _, _ => rfl
  | c :: t, a, b => by
    simp only [wd]
    by_cases h : placeN T c < 0
    · rw [if_pos h, if_pos h]; rfl
    · rw [if_neg h, if_neg h, ByteArray.append_assoc, wd_app T t]
theorem wd_size (T : List ByteArray) : ∀ (w : List ByteArray) (acc a : ByteArray), wd T w acc = some a → a.size = acc.size + w.length
  | [], acc, a, h => by rw [← Option.some.inj h]; rfl
  | c :: t, acc, a, h => by
    simp only [wd] at h
    by_cases hp : placeN T c < 0
    · rw [if_pos hp] at h; cases h
    · rw [if_neg hp] at h
      rw [wd_size T t _ _ h, ByteArray.size_append, lt_size, List.length_cons]; omega
def decW (T : List ByteArray) : List (List ByteArray) → Option (List ByteArray)
  | [] => some []
  | w :: V => match wd T w ⟨#[]⟩ with
    | none => none
    | some x => (decW T V).map (x :: ·)
def ansD (T : List ByteArray) (xs : List ByteArray) (V : List (List ByteArray)) : ByteArray × Bool := match decW T V with
  | none => (⟨#[]⟩, false)
  | some ys => (joinB 32 (xs ++ ys), true)
theorem ansD_none (T xs : List ByteArray) (w : List ByteArray) (V : List (List ByteArray)) (h : wd T w ⟨#[]⟩ = none) : ansD T xs (w :: V) = (⟨#[]⟩, false) := by
  simp only [ansD, decW, h]
theorem ansD_some (T xs : List ByteArray) (w : List ByteArray) (V : List (List ByteArray)) (x : ByteArray) (h : wd T w ⟨#[]⟩ = some x) : ansD T xs (w :: V) = ansD T (xs ++ [x]) V := by
  simp only [ansD, decW, h]
  cases decW T V with
  | none => rfl
  | some ys =>
    simp only [Option.map_some, List.append_assoc, List.cons_append, List.nil_append]
/-- a word's letters, then what comes -/
def goOn (o : Option ByteArray) (f : ByteArray → Option (ByteArray × Bool)) : Option (ByteArray × Bool) := match o with
  | none => some (⟨#[]⟩, false)
  | some a => f a
theorem sDec_l1 (T : List ByteArray) (hT : T.length ≤ 1048576) (W : List (List ByteArray)) (i : Nat) (hi : i < W.length) (hWl : W.length ≤ 1048577) (w : List ByteArray) (hw : rd_L1 W (i : Int) = w) (hwl : w.length ≤ 100000) (q : Nat) (hq : 1048600 ≤ q) (d : Nat) : ∀ (m j : Nat) (acc : ByteArray), m = q + d + 1 → j ≤ w.length → w.length - j = d → acc.size + d ≤ 1000000 →
    spec_l2Decode.l1 m acc W (i : Int) (j : Int) T = goOn (wd T (w.drop j) acc) fun a => spec_l2Decode.l0 q a W ((i + 1 : Nat) : Int) T := by
  have ci1 : (i : Int) < (W.length : Int) := by omega
  have ci0 : (0 : Int) ≤ (i : Int) := by omega
  have ei : wrap64 ((i : Int) + 1) = ((i + 1 : Nat) : Int) := by rw [wr (by omega) (by omega)]; omega
  induction d with
  | zero =>
    intro m j acc hm hj hd ha
    subst hm
    have hjl : j = w.length := by clear ei; omega
    have cj : ¬ (j : Int) < (w.length : Int) := by clear ei; omega
    simp only [spec_l2Decode.l1, Nat.add_zero, ci0, ci1, if_true, hw, cj, if_false, ei]
    rw [hjl, List.drop_length]; rfl
  | succ d ih =>
    intro m j acc hm hj hd ha
    obtain ⟨m, rfl⟩ : ∃ m', m = m' + 1 := ⟨q + d + 1, by clear ei ih; omega⟩
    have hmq : T.length < m := by clear ei ih; omega
    have hlt : j < w.length := by clear ei ih; omega
    obtain ⟨s, hget, hdrop⟩ : ∃ s : ByteArray, rdOf ByteArray.empty w (j : Int) = s ∧ wd T (w.drop j) acc = if placeN T s < 0 then none else wd T (w.drop (j + 1)) (acc ++ lt (placeN T s)) := ⟨w[j], rdS_get w j hlt, by rw [List.drop_eq_getElem_cons hlt]; rfl⟩
    have n := ih m (j + 1) (acc ++ lt (placeN T s)) (Nat.succ.inj hm) hlt (by rw [Nat.sub_add_eq, hd]; rfl) (by rw [ByteArray.size_append, lt_size]; clear ei ih; omega)
    have c1 : (j : Int) < (w.length : Int) := by clear ei ih n; omega
    have c2 : (0 : Int) ≤ (j : Int) := by clear ei ih n; omega
    have c3 : acc.size + (lt (placeN T s)).size ≤ 9223372036854775807 := by rw [lt_size]; clear ei ih n; omega
    have hpl := l2Place_eq T hT s m hmq
    have e1 : wrap64 ((j : Int) + 1) = ((j + 1 : Nat) : Int) := by clear ei ih n; rw [wr (by omega) (by omega)]; omega
    have hlet : spec_l2Letter.f (placeN T s) = some (lt (placeN T s)) := rfl
    simp only [spec_l2Decode.l1, ci0, ci1, c1, c2, if_true, hw, hget, hpl, Option.bind_some, hlet, c3, e1]
    rw [hdrop]
    by_cases hp : placeN T s < 0
    · rw [if_pos hp, if_pos hp]; rfl
    · rw [if_neg hp, if_neg hp, n]
theorem iDec_l1 (T : List ByteArray) (hT : T.length ≤ 1048576) (W : List (List ByteArray)) (i : Nat) (hWl : W.length ≤ 1048577) (hi : i < W.length) (xs : List ByteArray) (hxs : xs.length ≤ 1048577) (w : List ByteArray) (hwl : w.length ≤ 100000) (q : Nat) (hq : 1048600 ≤ q) (d : Nat) : ∀ (m j : Nat) (acc : ByteArray), m = q + d + 1 → j ≤ w.length → w.length - j = d → acc.size + d ≤ 1000000 →
    impl_decode.l1 m xs acc W (W.length : Int) (i : Int) w (w.length : Int) (j : Int) T = goOn (wd T (w.drop j) acc) fun a => impl_decode.l0 q (xs ++ [a]) W (W.length : Int) ((i + 1 : Nat) : Int) T := by
  have ei : wrap64 ((i : Int) + 1) = ((i + 1 : Nat) : Int) := by rw [wr (by omega) (by omega)]; omega
  have cx : xs.length < 8796093022208 := by clear ei; omega
  induction d with
  | zero =>
    intro m j acc hm hj hd ha
    subst hm
    have hjl : j = w.length := by clear ei; omega
    have cj : ¬ (j : Int) < (w.length : Int) := by clear ei; omega
    simp only [impl_decode.l1, Nat.add_zero, cj, if_false, ei, cx, if_true]
    rw [hjl, List.drop_length]; rfl
  | succ d ih =>
    intro m j acc hm hj hd ha
    obtain ⟨m, rfl⟩ : ∃ m', m = m' + 1 := ⟨q + d + 1, by clear ei ih; omega⟩
    have hmq : T.length < m := by clear ei ih; omega
    have hlt : j < w.length := by clear ei ih; omega
    obtain ⟨s, hget, hdrop⟩ : ∃ s : ByteArray, rdOf ByteArray.empty w (j : Int) = s ∧ wd T (w.drop j) acc = if placeN T s < 0 then none else wd T (w.drop (j + 1)) (acc ++ lt (placeN T s)) := ⟨w[j], rdS_get w j hlt, by rw [List.drop_eq_getElem_cons hlt]; rfl⟩
    have n := ih m (j + 1) (acc ++ lt (placeN T s)) (Nat.succ.inj hm) hlt (by rw [Nat.sub_add_eq, hd]; rfl) (by rw [ByteArray.size_append, lt_size]; clear ei ih; omega)
    have c1 : (j : Int) < (w.length : Int) := by clear ei ih n; omega
    have c2 : (0 : Int) ≤ (j : Int) := by clear ei ih n; omega
    have c3 : acc.size + (lt (placeN T s)).size ≤ 9223372036854775807 := by rw [lt_size]; clear ei ih n; omega
    have hpl := sIndex_eq T hT s m hmq
    have e1 : wrap64 ((j : Int) + 1) = ((j + 1 : Nat) : Int) := by clear ei ih n; rw [wr (by omega) (by omega)]; omega
    have hlet : impl_letterText.f (placeN T s) = some (lt (placeN T s)) := rfl
    simp only [impl_decode.l1, c1, c2, if_true, hget, hpl, Option.bind_some, hlet, c3, e1]
    rw [hdrop]
    by_cases hp : placeN T s < 0
    · rw [if_pos hp, if_pos hp]; rfl
    · rw [if_neg hp, if_neg hp, n]
def fu3 (W : List (List ByteArray)) : Nat := (W.map fun w => w.length + 3).sum
theorem joinB_nil : joinB 32 [] = ⟨#[]⟩ := rfl
theorem joinB_le (xs : List ByteArray) : ((joinB 32 xs).size : Int) ≤ sumZ xs + (xs.length : Int) := by
  by_cases h : xs = []
  · subst h; rw [joinB_nil, sumZ_nil]; exact Int.le_refl _
  · have := joinB_size 32 xs h; omega
theorem dec_l0 (T : List ByteArray) (hT : T.length ≤ 1048576) (W : List (List ByteArray)) (hWl : W.length ≤ 100) (hW : ∀ w ∈ W, w.length ≤ 100) (q0 : Nat) (hq0 : 1048600 ≤ q0) (d : Nat) : ∀ (m i : Nat) (xs : List ByteArray), m = q0 + fu3 (W.drop i) + 1 → i ≤ W.length → W.length - i = d → xs.length = i → sumZ xs ≤ 100 * (i : Int) →
    spec_l2Decode.l0 m (joinB 32 xs) W (i : Int) T = some (ansD T xs (W.drop i)) := by
  induction d with
  | zero =>
    intro m i xs hm hi hd hx hs
    subst hm
    have hil : i = W.length := by omega
    have hdr : W.drop i = [] := by rw [hil, List.drop_length]
    have ci : ¬ (i : Int) < (W.length : Int) := by omega
    simp only [spec_l2Decode.l0, ci, if_false, hdr, ansD, decW, List.append_nil]
  | succ d ih =>
    intro m i xs hm hi hd hx hs
    have hlt : i < W.length := by omega
    obtain ⟨w, hwl, hget, hdr⟩ : ∃ w : List ByteArray, w.length ≤ 100 ∧ rd_L1 W (i : Int) = w ∧ W.drop i = w :: W.drop (i + 1) := ⟨W[i], hW _ (List.getElem_mem hlt), rdL_get W i hlt, List.drop_eq_getElem_cons hlt⟩
    have hfu : fu3 (w :: W.drop (i + 1)) = w.length + 3 + fu3 (W.drop (i + 1)) := by simp [fu3]
    rw [hdr] at hm ⊢
    rw [hfu] at hm
    obtain ⟨q, hq⟩ : ∃ q, q = q0 + fu3 (W.drop (i + 1)) + 1 := ⟨_, rfl⟩
    obtain ⟨p, hp⟩ : ∃ p, p = q + w.length + 1 := ⟨_, rfl⟩
    obtain rfl : m = p + 1 + 1 := by omega
    have hjl := joinB_le xs
    have c1 : (i : Int) < (W.length : Int) := by omega
    have step : ∀ acc : ByteArray, acc.size ≤ 20000 → spec_l2Decode.l1 p acc W (i : Int) 0 T = goOn (wd T w acc) fun a => spec_l2Decode.l0 q a W ((i + 1 : Nat) : Int) T := fun acc ha => by
      have := sDec_l1 T hT W i hlt (by omega) w hget (by omega) q (by omega) w.length p 0 acc (by omega) (by omega) (by omega) (by omega)
      rw [List.drop_zero] at this
      exact this
    have fin : ∀ acc : ByteArray, acc.size ≤ 20000 → (∀ x, acc ++ x = joinB 32 (xs ++ [x])) → spec_l2Decode.l1 p acc W (i : Int) 0 T = some (ansD T xs (w :: W.drop (i + 1))) := fun acc ha hj => by
      rw [step acc ha]
      have hwa : wd T w acc = (wd T w ⟨#[]⟩).map (acc ++ ·) := by
        have := wd_app T w acc ⟨#[]⟩
        rw [app_empty] at this
        exact this
      cases h : wd T w ⟨#[]⟩ with
      | none => rw [hwa, h, ansD_none T xs w _ h]; rfl
      | some x =>
        have hxz := wd_size T w _ _ h
        have h0 : (⟨#[]⟩ : ByteArray).size = 0 := rfl
        rw [hwa, h, ansD_some T xs w _ x h]
        show spec_l2Decode.l0 q (acc ++ x) W ((i + 1 : Nat) : Int) T = _
        rw [hj x]
        exact ih q (i + 1) (xs ++ [x]) hq hlt (by rw [Nat.sub_add_eq, hd]; rfl) (by rw [List.length_append, hx]; rfl) (by rw [sumZ_snoc]; omega)
    have hz : ((0 : Nat) : Int) = 0 := rfl
    simp only [spec_l2Decode.l0, c1, if_true, spec_l2Decode.j1]
    by_cases h0 : (i : Int) > 0
    · have hne : xs ≠ [] := fun e => by rw [e] at hx; simp at hx; omega
      rw [if_pos h0, if_pos (by omega)]
      refine fin (joinB 32 xs ++ ⟨#[32]⟩) (by rw [ByteArray.size_append]; show (joinB 32 xs).size + 1 ≤ 20000; omega) fun x => ?_
      rw [joinB_snoc 32 xs x hne]
    · rw [if_neg h0]
      have hxn : xs = [] := List.length_eq_zero_iff.1 (by omega)
      subst hxn
      refine fin (joinB 32 []) (by omega) fun x => ?_
      rw [joinB_nil, List.nil_append, joinB_one]
      show txt [] ++ x = x
      rw [← txt_of x, txt_app]; rfl
theorem decI_l0 (T : List ByteArray) (hT : T.length ≤ 1048576) (W : List (List ByteArray)) (hWl : W.length ≤ 100) (hW : ∀ w ∈ W, w.length ≤ 100) (q0 : Nat) (hq0 : 1048600 ≤ q0) (d : Nat) : ∀ (m i : Nat) (xs : List ByteArray), m = q0 + fuW (W.drop i) + 1 → i ≤ W.length → W.length - i = d → xs.length = i → sumZ xs ≤ 100 * (i : Int) →
    impl_decode.l0 m xs W (W.length : Int) (i : Int) T = some (ansD T xs (W.drop i)) := by
  induction d with
  | zero =>
    intro m i xs hm hi hd hx hs
    subst hm
    have hil : i = W.length := by omega
    have hdr : W.drop i = [] := by rw [hil, List.drop_length]
    have ci : ¬ (i : Int) < (W.length : Int) := by omega
    have hjf : strings_Join.f xs ⟨#[32]⟩ = some (joinB 32 xs) := by
      by_cases h : xs = []
      · subst h; rfl
      · exact join_full 32 xs (by omega) h (by omega)
    simp only [impl_decode.l0, ci, if_false, hdr, ansD, decW, List.append_nil, hjf, Option.bind_some]
  | succ d ih =>
    intro m i xs hm hi hd hx hs
    have hlt : i < W.length := by omega
    obtain ⟨w, hwl, hget, hdr⟩ : ∃ w : List ByteArray, w.length ≤ 100 ∧ rd_L1 W (i : Int) = w ∧ W.drop i = w :: W.drop (i + 1) := ⟨W[i], hW _ (List.getElem_mem hlt), rdL_get W i hlt, List.drop_eq_getElem_cons hlt⟩
    have hfu : fuW (w :: W.drop (i + 1)) = w.length + 2 + fuW (W.drop (i + 1)) := by simp [fuW]
    rw [hdr] at hm ⊢
    rw [hfu] at hm
    obtain ⟨q, hq⟩ : ∃ q, q = q0 + fuW (W.drop (i + 1)) + 1 := ⟨_, rfl⟩
    obtain ⟨p, hp⟩ : ∃ p, p = q + w.length + 1 := ⟨_, rfl⟩
    obtain rfl : m = p + 1 := by omega
    have h0 : (⟨#[]⟩ : ByteArray).size = 0 := rfl
    have c1 : (i : Int) < (W.length : Int) := by omega
    have c0 : (0 : Int) ≤ (i : Int) := by omega
    have step := iDec_l1 T hT W i (by omega) hlt xs (by omega) w (by omega) q (by omega) w.length p 0 ⟨#[]⟩ (by omega) (by omega) (by omega) (by omega)
    rw [List.drop_zero] at step
    have hz : ((0 : Nat) : Int) = 0 := rfl
    rw [hz] at step
    simp only [impl_decode.l0, c1, c0, if_true, hget, step]
    cases h : wd T w ⟨#[]⟩ with
    | none => rw [ansD_none T xs w _ h]; rfl
    | some x =>
      have hxz := wd_size T w _ _ h
      rw [ansD_some T xs w _ x h]
      show impl_decode.l0 q (xs ++ [x]) W (W.length : Int) ((i + 1 : Nat) : Int) T = _
      exact ih q (i + 1) (xs ++ [x]) hq hlt (by rw [Nat.sub_add_eq, hd]; rfl) (by rw [List.length_append, hx]; rfl) (by rw [sumZ_snoc]; omega)
/-! a law whose function is handed a table, and answers something and a bool -/
theorem law_DecodeSignal (l0 : List ByteArray) (a1 : ByteArray) (hsz : ¬ (a1.size : Int) > 1048576) (hl : l0.length ≤ maxLen) (hs : ∀ s ∈ l0, s.size ≤ maxLen) (K : Nat)
    (h : l0.length ≤ 1048576 → (∀ s ∈ l0, s.size ≤ 1048576) → ∃ R, ∀ k, K ≤ k → spec_DecodeSignal.f k l0 a1 = some R ∧ impl_DecodeSignal.f k l0 a1 = some R) : ∃ k, laws_FnExactDecodeSignal.f k l0 a1 = some true := by
  skip
  obtain ⟨t, ht, hb⟩ := szTable_eq l0 hl hs
  by_cases h0 : t < 0
  · refine ⟨l0.length + 1, ?_⟩
    unfold laws_FnExactDecodeSignal.f
    simp only [ht (l0.length + 1) (by omega), Option.bind_some, h0, if_true, if_false, ite_self, hsz]
  · obtain ⟨h1, h2⟩ := hb (by omega)
    obtain ⟨R, hR⟩ := h h1 h2
    obtain ⟨M, hM⟩ : ∃ M : Nat, K ≤ M ∧ 4194400 ≤ M := ⟨K + 4194400, by omega, by omega⟩
    refine ⟨M + 1, ?_⟩
    have r := hR (M + 1) (by omega)
    unfold laws_FnExactDecodeSignal.f
    simp only [ht (M + 1) (by omega), Option.bind_some, h0, if_false, hsz]
    simp only [toTable_eq l0 h1 (M + 1) (by omega), r.1, r.2, Option.bind_some, bne_self_eq_false, Bool.false_eq_true, if_false, if_true]
    simp only [laws_FnExactDecodeSignal.j0, toTable_eq l0 h1 (M) (by omega), eqTable_self l0 h1 (M) (by omega), Option.bind_some, Bool.false_eq_true, if_false, if_true]
theorem isTab_len (l : List ByteArray) (h : isTab l = true) : l.length ≤ 10 := by
  simp only [isTab, Bool.and_eq_true, decide_eq_true_eq] at h
  omega
theorem sig_small (s : ByteArray) (h0 : s.size ≠ 0) (h : isSig s = true) : cntW (wordsL s) + (wordsL s).length ≤ 13 := by
  unfold isSig at h
  rw [if_neg h0] at h
  by_cases h72 : s.size > 72
  · rw [if_pos h72] at h; cases h
  · rw [if_neg h72] at h
    simp only [Bool.and_eq_true, decide_eq_true_eq] at h
    omega
theorem cnt_mem : ∀ (W : List (List ByteArray)) (w : List ByteArray), w ∈ W → w.length ≤ cntW W
  | [], _, h => by cases h
  | a :: W, w, h => by
    rw [cntW_cons]
    rcases List.mem_cons.1 h with h | h
    · rw [h]; omega
    · have := cnt_mem W w h; omega
theorem fu3_eq (W : List (List ByteArray)) : fu3 W = cntW W + 3 * W.length := by
  induction W with
  | nil => rfl
  | cons w W ih => simp only [fu3, cntW, List.map_cons, List.sum_cons, List.length_cons] at ih ⊢; omega
theorem FnExactDecodeSignal : laws_FnExactDecodeSignal.Pure := by
  intro l a1 hl hs _
  by_cases hsz : (a1.size : Int) > 1048576
  · refine ⟨0, ?_⟩
    unfold laws_FnExactDecodeSignal.f
    rw [if_pos hsz]
  refine law_DecodeSignal l a1 hsz hl hs 8388700 fun h1 h2 => ?_
  by_cases ht : isTab l = true
  · have hl10 := isTab_len l ht
    by_cases hg : isSig a1 = true
    · by_cases h0 : a1.size = 0
      · refine ⟨(⟨#[]⟩, true), fun k hk => ?_⟩
        have b := isSig_both a1 (by omega) k (by omega)
        have w0 : wordsI a1 = [] := by unfold wordsI; rw [if_pos h0]
        have hlo := lettersOf_eq a1 (by omega) k (by omega)
        rw [w0] at hlo
        have hd := decI_l0 l h1 [] (by simp) (by simp) (k - 1) (by omega) 0 k 0 [] (by simp [fuW]; omega) (by simp) rfl rfl (by rw [sumZ_nil]; omega)
        have hz : ((0 : Nat) : Int) = 0 := rfl
        rw [hz] at hd
        unfold spec_DecodeSignal.f impl_DecodeSignal.f spec_l2Decode.f impl_decode.f
        rw [l2Table_eq l h1 h2 _ (by omega), isTable_eq l h1 h2 _ (by omega), ht, b.1, b.2, hg, hlo]
        simp only [Option.bind_some, if_true, isNil, h0]
        have hd' : impl_decode.l0 k [] [] (([] : List (List ByteArray)).length : Int) 0 l = some (⟨#[]⟩, true) := hd
        rw [hd']
        exact ⟨trivial, rfl⟩
      · refine ⟨ansD l [] (wordsL a1), fun k hk => ?_⟩
        have sm := sig_small a1 h0 hg
        have b := isSig_both a1 (by omega) k (by omega)
        have w0 : wordsI a1 = wordsL a1 := by unfold wordsI; rw [if_neg h0]
        have hlo := lettersOf_eq a1 (by omega) k (by omega)
        rw [w0] at hlo
        have hwo := l2Words_eq a1 (by omega) k (by omega)
        have f1 := fuW_eq (wordsL a1)
        have f3 := fu3_eq (wordsL a1)
        have hm : ∀ w ∈ wordsL a1, w.length ≤ 100 := fun w hw => by have := cnt_mem _ w hw; omega
        have di := decI_l0 l h1 (wordsL a1) (by omega) hm (k - fuW (wordsL a1) - 1) (by omega) (wordsL a1).length k 0 [] (by rw [List.drop_zero]; omega) (by omega) (by omega) rfl (by rw [sumZ_nil]; omega)
        have ds := dec_l0 l h1 (wordsL a1) (by omega) hm (k - fu3 (wordsL a1) - 1) (by omega) (wordsL a1).length k 0 [] (by rw [List.drop_zero]; omega) (by omega) (by omega) rfl (by rw [sumZ_nil]; omega)
        have hz : ((0 : Nat) : Int) = 0 := rfl
        rw [List.drop_zero, hz] at di ds
        rw [joinB_nil] at ds
        unfold spec_DecodeSignal.f impl_DecodeSignal.f spec_l2Decode.f impl_decode.f
        rw [l2Table_eq l h1 h2 _ (by omega), isTable_eq l h1 h2 _ (by omega), ht, b.1, b.2, hg, hlo, hwo]
        simp only [Option.bind_some, if_true, isNil, h0, if_false, ds, di]
        exact ⟨trivial, trivial⟩
    · refine ⟨(⟨#[]⟩, false), fun k hk => ?_⟩
      have b := isSig_both a1 (by omega) k (by omega)
      unfold spec_DecodeSignal.f impl_DecodeSignal.f spec_l2Decode.f
      rw [l2Table_eq l h1 h2 _ (by omega), isTable_eq l h1 h2 _ (by omega), ht, b.1, b.2, (Bool.not_eq_true _).mp hg]
      exact ⟨rfl, rfl⟩
  · refine ⟨(⟨#[]⟩, false), fun k hk => ?_⟩
    unfold spec_DecodeSignal.f impl_DecodeSignal.f
    rw [l2Table_eq l h1 h2 _ (by omega), isTable_eq l h1 h2 _ (by omega), (Bool.not_eq_true _).mp ht]
    exact ⟨rfl, rfl⟩

end Go.Proofs.YtebdmdegmlblgaaDoor.Pure
