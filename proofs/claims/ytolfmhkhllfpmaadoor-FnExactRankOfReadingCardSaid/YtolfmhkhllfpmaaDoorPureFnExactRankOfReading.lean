/- RankOfReading of the program and of the reference answer alike at every table and text. -/
import Derived.Test.YtolfmhkhllfpmaaDoorHFnExactRankOfReadingx7
namespace Go.Proofs.YtolfmhkhllfpmaaDoor.Pure
open Go.RowKit Go.Proofs.YtolfmhkhllfpmaaDoor.HFnExactRankOfReading Go.Proofs.YtolfmhkhllfpmaaDoorW.PrintWords Go.Proofs.YtolfmhkhllfpmaaDoorW.PrintLast
set_option linter.unusedVariables false
set_option linter.unusedSimpArgs false
set_option linter.unnecessarySimpa false

theorem wr {i : Int} (h0 : -9223372036854775808 ≤ i) (h1 : i ≤ 9223372036854775807) : wrap64 i = i := by unfold wrap64; omega
theorem rd_nat (xs : List Int) (i : Nat) : rd xs (i : Int) = xs.getD i 0 := by simp [rd]
theorem rd_get (xs : List Int) (i : Nat) (h : i < xs.length) : rd xs (i : Int) = xs[i] := by simp [rd, h]
theorem pred_of_lt {d k : Nat} (h : d < k) : ∃ m, k = m + 1 := ⟨k - 1, by omega⟩
/-! bytes of a text -/
theorem size_data (s : ByteArray) : s.data.toList.length = s.size := Array.length_toList
theorem bt_nat (s : ByteArray) (i : Nat) (h : i < s.size) : bt s (i : Int) = ((s.data.toList[i]'(by rw [size_data]; exact h)).toNat : Int) := by
  have := bt_at s (i : Int) (by simpa using h)
  rw [← this]
  rfl
theorem byte_num (b c : UInt8) (n : Nat) (hc : c.toNat = n) : ((b.toNat : Int) = (n : Int)) ↔ b = c := by
  constructor
  · intro h
    exact UInt8.toNat_inj.1 (by omega)
  · rintro rfl; omega
/-! what is left when bytes of a set are taken off both ends -/
theorem dropWhile_nil {p : UInt8 → Bool} (l : List UInt8) : l.dropWhile p = [] ↔ l.all p = true := by
  induction l with
  | nil => simp
  | cons a l ih =>
    rw [List.dropWhile_cons]
    by_cases h : p a = true
    · rw [if_pos h, ih]; simp [h]
    · rw [if_neg h]; simp [h]
theorem trimS_nil (l cs : List UInt8) : Lib.trimS l cs = [] ↔ l.all (cs.contains ·) = true := by
  unfold Lib.trimS Lib.trimLeftS Lib.trimRightS
  rw [dropWhile_nil]
  constructor
  · intro h
    by_cases hr : (l.reverse.dropWhile (cs.contains ·)) = []
    · rw [dropWhile_nil, List.all_reverse] at hr; exact hr
    · exfalso
      rw [List.all_reverse] at h
      cases hd : l.reverse.dropWhile (cs.contains ·) with
      | nil => exact hr hd
      | cons a t =>
        have ha : cs.contains a = false := by
          have := List.head?_dropWhile_not (cs.contains ·) l.reverse
          rw [hd] at this
          simpa using this
        rw [hd] at h
        simp at h
        rw [List.contains_eq_mem] at ha
        simp [h.1] at ha
  · intro h
    have : (l.reverse.dropWhile (cs.contains ·)) = [] := by
      rw [dropWhile_nil, List.all_reverse]; exact h
    rw [this]; rfl
theorem toList_nil (l : List UInt8) : ((⟨l.toArray⟩ : ByteArray).toList == ([] : List UInt8)) = l.isEmpty := by
  have : (⟨l.toArray⟩ : ByteArray).toList = l := by
    rw [ByteArray.toList_eq]
  rw [this]
  cases l <;> rfl
theorem l1In_eq (a b c : Int) : spec_l1In.f a b c = some (decide (b ≤ a) && decide (a ≤ c)) := by
  unfold spec_l1In.f
  by_cases h : a ≥ b
  · rw [if_pos h]; simp [show b ≤ a from h]
  · rw [if_neg h]; simp [show ¬ b ≤ a from h]
theorem in_eq (a b c : Int) : impl_in.f a b c = some (decide (b ≤ a) && decide (a ≤ c)) := by
  unfold impl_in.f
  by_cases h : a ≥ b
  · rw [if_pos h]; simp [show b ≤ a from h]
  · rw [if_neg h]; simp [show ¬ b ≤ a from h]
/-! lists of texts: their sizes, copies, comparisons -/
theorem rdS_get (xs : List ByteArray) (i : Nat) (h : i < xs.length) : rdOf ByteArray.empty xs (i : Int) = xs[i] := by simp [rdOf, h]
theorem toList_inj (a b : ByteArray) : a.toList = b.toList ↔ a = b := by
  rw [ByteArray.toList_eq, ByteArray.toList_eq]
  constructor
  · intro h; exact ByteArray.ext (Array.toList_inj.1 h)
  · rintro rfl; rfl
theorem szStringS_l0 (l : List ByteArray) (hl : l.length ≤ maxLen) (hs : ∀ s ∈ l, s.size ≤ maxLen) (d : Nat) : ∀ (i : Nat) (left : Int), 0 ≤ left → left ≤ 1048576 → i ≤ l.length → l.length - i = d →
    ∃ t : Int, (∀ k, d < k → laws_szStringS.l0 k l left (i : Int) = some t) ∧ t ≤ left ∧ (0 ≤ t → ∀ j (h : j < l.length), i ≤ j → (l[j].size : Int) ≤ left) := by
  unfold maxLen at hl hs
  induction d with
  | zero =>
    intro i left h0 h1 hi hd
    refine ⟨left, fun k hk => ?_, by omega, fun _ j h hij => by omega⟩
    obtain ⟨k, rfl⟩ := pred_of_lt hk
    simp only [laws_szStringS.l0]; rw [if_neg (by omega)]
  | succ d ih =>
    intro i left h0 h1 hi hd
    have hlt : i < l.length := by omega
    have hsz := hs _ (List.getElem_mem hlt)
    have c1 : (i : Int) < (l.length : Int) := by omega
    have c2 : (0 : Int) ≤ (i : Int) := by omega
    have e1 : wrap64 ((i : Int) + 1) = ((i + 1 : Nat) : Int) := by rw [wr (by omega) (by omega)]; omega
    have e2 : wrap64 (left - (l[i].size : Int)) = left - (l[i].size : Int) := by rw [wr (by omega) (by omega)]
    by_cases hc : left - (l[i].size : Int) < 0
    · refine ⟨-1, fun k hk => ?_, by omega, fun h => by omega⟩
      obtain ⟨k, rfl⟩ := pred_of_lt hk
      simp only [laws_szStringS.l0, c1, c2, if_true, rdS_get l i hlt, e2, hc]
    · obtain ⟨t, ht, h2, h3⟩ := ih (i + 1) (left - (l[i].size : Int)) (by omega) (by omega) (by omega) (by omega)
      refine ⟨t, fun k hk => ?_, by omega, fun h0t j h hij => ?_⟩
      · obtain ⟨k, rfl⟩ := pred_of_lt hk
        simp only [laws_szStringS.l0, c1, c2, if_true, rdS_get l i hlt, e2, hc, if_false, e1]
        exact ht k (by omega)
      · by_cases hji : i = j
        · subst hji; omega
        · have := h3 h0t j h (by omega); omega
theorem szStringS_eq (l : List ByteArray) (hl : l.length ≤ maxLen) (hs : ∀ s ∈ l, s.size ≤ maxLen) : ∃ t : Int, (∀ k, l.length < k → laws_szStringS.f k l 1048576 = some t) ∧ (0 ≤ t → l.length ≤ 1048576 ∧ ∀ s ∈ l, s.size ≤ 1048576) := by
  have hl' := hl
  unfold maxLen at hl'
  have e : wrap64 (1048576 - (l.length : Int)) = 1048576 - (l.length : Int) := by rw [wr (by omega) (by omega)]
  by_cases hc : 1048576 - (l.length : Int) < 0
  · refine ⟨-1, fun k hk => ?_, fun h => by omega⟩
    unfold laws_szStringS.f
    rw [e, if_pos hc]
  · obtain ⟨t, ht, h2, h3⟩ := szStringS_l0 l hl hs l.length 0 (1048576 - (l.length : Int)) (by omega) (by omega) (by omega) (by omega)
    refine ⟨t, fun k hk => ?_, fun h0 => ⟨by omega, fun s hsm => ?_⟩⟩
    · unfold laws_szStringS.f
      rw [e, if_neg hc]
      exact ht k hk
    · obtain ⟨j, hj, rfl⟩ := List.getElem_of_mem hsm
      have := h3 h0 j hj (by omega)
      omega
theorem toStringS_l0 (x0 : List ByteArray) (hx : x0.length ≤ 1048576) (d : Nat) : ∀ (k i : Nat) (x3 : List ByteArray), i ≤ x0.length → x0.length - i = d → d < k → x3.length = x0.length → (∀ j, j < i → x3[j]? = x0[j]?) →
    laws_toStringS.l0 k x0 x3 (i : Int) = some x0 := by
  induction d with
  | zero =>
    intro k i x3 hi hd hk hl ht
    obtain ⟨k, rfl⟩ := pred_of_lt hk
    simp only [laws_toStringS.l0]; rw [if_neg (by omega)]
    refine congrArg some (List.ext_getElem? fun j => ?_)
    by_cases hj : j < i
    · exact ht j hj
    · rw [List.getElem?_eq_none (by omega), List.getElem?_eq_none (by omega)]
  | succ d ih =>
    intro k i x3 hi hd hk hl ht
    obtain ⟨k, rfl⟩ := pred_of_lt hk
    simp only [laws_toStringS.l0]; rw [if_pos (by omega), if_pos (by omega), if_pos (by omega), wr (by omega) (by omega)]
    have e : ((i : Int) + 1) = ((i + 1 : Nat) : Int) := by omega
    rw [e, Int.toNat_natCast, rdS_get x0 i (by omega)]
    refine ih k (i + 1) _ (by omega) (by omega) (by omega) (by simpa using hl) fun j hj => ?_
    rw [List.getElem?_set]
    by_cases hji : i = j
    · subst hji
      simp [show i < x3.length by omega, show i < x0.length by omega]
    · rw [if_neg hji]; exact ht j (by omega)
theorem toStringS_eq (l : List ByteArray) (h : l.length ≤ 1048576) (k : Nat) (hk : l.length < k) : laws_toStringS.f k l = some l := by
  unfold laws_toStringS.f
  rw [if_pos (by omega), if_pos (by omega)]
  exact toStringS_l0 l (by omega) l.length k 0 _ (by omega) (by omega) hk (by simp) (fun j hj => by omega)
theorem eqStringS_l0 (a : List ByteArray) (ha : a.length ≤ 1048576) (d : Nat) : ∀ (k i : Nat), i ≤ a.length → a.length - i = d → d < k → laws_eqStringS.l0 k a a (i : Int) = some true := by
  induction d with
  | zero =>
    intro k i hi hd hk
    obtain ⟨k, rfl⟩ := pred_of_lt hk
    simp only [laws_eqStringS.l0]; rw [if_neg (by omega)]
  | succ d ih =>
    intro k i hi hd hk
    obtain ⟨k, rfl⟩ := pred_of_lt hk
    simp only [laws_eqStringS.l0, if_true]; rw [if_pos (by omega), if_pos (by omega), if_pos (by omega), wr (by omega) (by omega)]
    have e : ((i : Int) + 1) = ((i + 1 : Nat) : Int) := by omega
    rw [e]
    exact ih k (i + 1) (by omega) (by omega) (by omega)
theorem eqStringS_self (a : List ByteArray) (ha : a.length ≤ 1048576) (k : Nat) (hk : a.length < k) : laws_eqStringS.f k a a = some true := by
  unfold laws_eqStringS.f
  rw [if_pos rfl]
  exact eqStringS_l0 a ha a.length k 0 (by omega) (by omega) hk
/-! a table that a law is handed -/
theorem szTable_eq (l : List ByteArray) (hl : l.length ≤ maxLen) (hs : ∀ s ∈ l, s.size ≤ maxLen) : ∃ t : Int, (∀ k, l.length < k → laws_szTable.f k l 1048576 = some t) ∧ (0 ≤ t → l.length ≤ 1048576 ∧ ∀ s ∈ l, s.size ≤ 1048576) := by
  obtain ⟨t, ht, h⟩ := szStringS_eq l hl hs
  by_cases h0 : t < 0
  · refine ⟨-1, fun k hk => ?_, fun h => by omega⟩
    unfold laws_szTable.f
    rw [ht k hk]; simp only [Option.bind_some]; rw [if_pos h0]
  · refine ⟨t, fun k hk => ?_, h⟩
    unfold laws_szTable.f
    rw [ht k hk]; simp only [Option.bind_some]; rw [if_neg h0]
theorem toTable_eq (l : List ByteArray) (h : l.length ≤ 1048576) (k : Nat) (hk : l.length < k) : laws_toTable.f k l = some l := by
  unfold laws_toTable.f; rw [toStringS_eq l h k hk]; rfl
theorem eqTable_self (l : List ByteArray) (h : l.length ≤ 1048576) (k : Nat) (hk : l.length < k) : laws_eqTable.f k l l = some true := by
  unfold laws_eqTable.f; rw [eqStringS_self l h k hk]; rfl
/-! marks, as both sides ask for them -/
def dotDash (b : UInt8) : Bool := b == 46 || b == 45
def isMk (s : ByteArray) (lo hi : Int) : Bool := (decide (lo ≤ (s.size : Int)) && decide ((s.size : Int) ≤ hi)) && s.data.toList.all dotDash
theorem bt_is (s : ByteArray) (i : Nat) (h : i < s.size) (c : UInt8) (n : Int) (hc : (c.toNat : Int) = n) : (bt s (i : Int) = n) ↔ (s.data.toList[i]'(by rw [size_data]; exact h)) = c := by
  rw [bt_nat s i h, ← hc]
  constructor
  · intro e; exact UInt8.toNat_inj.1 (by omega)
  · intro e; rw [e]
theorem l2Marks_l0 (s : ByteArray) (hs : s.size ≤ 1048576) (lo hi : Int) (d : Nat) : ∀ (k i : Nat), i ≤ s.size → s.size - i = d → 2 * d + 1 < k → (s.data.toList.take i).all dotDash = true → spec_l2Marks.l0 k s lo hi (i : Int) = some (isMk s lo hi) := by
  have hsz := size_data s
  induction d with
  | zero =>
    intro k i hi' hd hk ht
    obtain ⟨k, rfl⟩ := pred_of_lt hk
    obtain ⟨k, rfl⟩ : ∃ m, k = m + 1 := ⟨k - 1, by omega⟩
    simp only [spec_l2Marks.l0]; rw [if_neg (by omega)]
    simp only [spec_l2Marks.j1]; rw [if_neg (by simp), l1In_eq]
    rw [List.take_of_length_le (by omega)] at ht
    simp only [Option.bind_some, isMk, ht, Bool.and_true]
  | succ d ih =>
    intro k i hi' hd hk ht
    obtain ⟨k, rfl⟩ := pred_of_lt hk
    obtain ⟨k, rfl⟩ : ∃ m, k = m + 1 := ⟨k - 1, by omega⟩
    have c1 : (i : Int) < (s.size : Int) := by omega
    have c2 : (0 : Int) ≤ (i : Int) := by omega
    have e : wrap64 ((i : Int) + 1) = ((i + 1 : Nat) : Int) := by rw [wr (by omega) (by omega)]; omega
    simp only [spec_l2Marks.l0, c1, if_true, spec_l2Marks.j1]
    by_cases h200 : (i : Int) ≤ hi
    · have hd2 : decide ((i : Int) ≤ hi) = true := by simpa using h200
      simp only [hd2, c2, if_true, e]
      have hlt : i < s.data.toList.length := by omega
      have next : dotDash (s.data.toList[i]) = true → spec_l2Marks.l0 k s lo hi ((i + 1 : Nat) : Int) = some (isMk s lo hi) := fun hb => ih k (i + 1) (by omega) (by omega) (by omega) (by
        rw [List.take_succ_eq_append_getElem hlt, List.all_append, ht]; simp only [List.all_cons, List.all_nil, hb, Bool.and_true])
      by_cases h0 : bt s (i : Int) = 46
      · rw [if_pos h0]
        exact next (by rw [bt_is s i (by omega) 46 46 (by decide)] at h0; rw [h0]; decide)
      · rw [if_neg h0]
        by_cases h1 : bt s (i : Int) = 45
        · rw [if_pos h1]
          exact next (by rw [bt_is s i (by omega) 45 45 (by decide)] at h1; rw [h1]; decide)
        · rw [if_neg h1]
          rw [bt_is s i (by omega) 46 46 (by decide)] at h0
          rw [bt_is s i (by omega) 45 45 (by decide)] at h1
          have hm : s.data.toList[i] ∈ s.data.toList := List.getElem_mem _
          have hf : s.data.toList.all dotDash = false := by
            rw [List.all_eq_false]; exact ⟨_, hm, by simp only [dotDash, Bool.or_eq_true, beq_iff_eq, h0, h1, or_self, not_false_eq_true]⟩
          simp only [isMk, hf, Bool.and_false]
    · have hd2 : decide ((i : Int) ≤ hi) = false := by simpa using h200
      simp only [hd2, Bool.false_eq_true, if_false]
      have hn : decide ((s.size : Int) ≤ hi) = false := by simp; omega
      rw [l1In_eq]
      simp only [Option.bind_some, isMk, hn, Bool.and_false, Bool.false_and]
theorem l2Marks_eq (s : ByteArray) (hs : s.size ≤ 1048576) (lo hi : Int) (k : Nat) (hk : 2 * s.size + 1 < k) : spec_l2Marks.f k s lo hi = some (isMk s lo hi) := by
  unfold spec_l2Marks.f
  exact l2Marks_l0 s hs lo hi s.size k 0 (by omega) (by omega) hk (by simp)
theorem areMarks_eq (s : ByteArray) (hs : s.size ≤ 1048576) (lo hi : Int) : impl_areMarks.f s lo hi = some (isMk s lo hi) := by
  unfold impl_areMarks.f
  rw [in_eq]
  simp only [Option.bind_some]
  by_cases h : (decide (lo ≤ (s.size : Int)) && decide ((s.size : Int) ≤ hi)) = true
  · rw [if_pos h]
    unfold strings_Trim.f
    rw [if_pos (by omega), if_pos (by decide), if_pos (by decide)]
    simp only [Option.bind_some]
    rw [toList_nil]
    have e : (Lib.trimS s.data.toList [46, 45]).isEmpty = s.data.toList.all dotDash := by
      rw [Bool.eq_iff_iff, List.isEmpty_iff, trimS_nil]
      have : (fun x => [46, 45].contains x) = dotDash := by
        funext x
        simp [dotDash, List.contains_eq_mem]
        rfl
      rw [this]
    show some (Lib.trimS s.data.toList [46, 45]).isEmpty = _
    rw [e]
    simp only [isMk, h, Bool.true_and]
  · rw [if_neg h]
    simp only [isMk, (Bool.not_eq_true _).mp h, Bool.false_and]
theorem in_eq' (a b c : Int) : impl_in.f a b c = some (decide (b ≤ a) && decide (a ≤ c)) := in_eq a b c
/-! a table, as both sides ask for it -/
def has (l : List ByteArray) (a : ByteArray) : Bool := l.any fun b => a.toList == b.toList
def goodT : List ByteArray → List ByteArray → Bool
  | _, [] => true
  | seen, a :: t => isMk a 1 5 && (!has seen a && goodT (seen ++ [a]) t)
def isTab (l : List ByteArray) : Bool := (decide (1 ≤ (l.length : Int)) && decide ((l.length : Int) ≤ 10)) && goodT [] l
theorem take_snoc {α : Type} (l : List α) (i : Nat) (h : i < l.length) : l.take (i + 1) = l.take i ++ [l[i]] := List.take_succ_eq_append_getElem h
theorem drop_cons {α : Type} (l : List α) (i : Nat) (h : i < l.length) : l.drop i = l[i] :: l.drop (i + 1) := List.drop_eq_getElem_cons h
theorem has_take (l : List ByteArray) (a : ByteArray) (i : Nat) (h : i < l.length) : has (l.take (i + 1)) a = (has (l.take i) a || (a.toList == l[i].toList)) := by
  unfold has
  rw [take_snoc l i h, List.any_append]; simp only [List.any_cons, List.any_nil, Bool.or_false]
/-- where a text stands in a list first, or -1 -/
def placeN (l : List ByteArray) (a : ByteArray) : Int := match l.findIdx? (fun b => a.toList == b.toList) with
  | some i => (i : Int)
  | none => -1
theorem place_hit (l : List ByteArray) (a : ByteArray) (i : Nat) (hi : i < l.length) (h1 : has (l.take i) a = false) (h2 : a.toList = l[i].toList) : placeN l a = (i : Int) := by
  unfold placeN
  have : l.findIdx? (fun b => a.toList == b.toList) = some i := by
    rw [List.findIdx?_eq_some_iff_getElem]
    refine ⟨hi, by simpa using h2, fun j hj => ?_⟩
    intro hc
    have hm : l[j] ∈ l.take i := by
      rw [List.mem_take_iff_getElem]
      exact ⟨j, by omega, rfl⟩
    have ht : has (l.take i) a = true := List.any_eq_true.2 ⟨_, hm, hc⟩
    rw [h1] at ht; cases ht
  rw [this]
theorem place_none (l : List ByteArray) (a : ByteArray) (h : has l a = false) : placeN l a = -1 := by
  unfold placeN
  have : l.findIdx? (fun b => a.toList == b.toList) = none := by
    rw [List.findIdx?_eq_none_iff]
    intro x hx
    have := List.any_eq_false.1 h x hx
    simpa using this
  rw [this]
theorem l2Place_l0 (l : List ByteArray) (hl : l.length ≤ 1048576) (a : ByteArray) (d : Nat) : ∀ (k i : Nat), i ≤ l.length → l.length - i = d → d < k → has (l.take i) a = false → spec_l2Place.l0 k l a (i : Int) = some (placeN l a) := by
  induction d with
  | zero =>
    intro k i hi hd hk ht
    obtain ⟨k, rfl⟩ := pred_of_lt hk
    simp only [spec_l2Place.l0]; rw [if_neg (by omega)]
    rw [List.take_of_length_le (by omega)] at ht
    rw [place_none l a ht]
  | succ d ih =>
    intro k i hi hd hk ht
    obtain ⟨k, rfl⟩ := pred_of_lt hk
    have hlt : i < l.length := by omega
    simp only [spec_l2Place.l0]; rw [if_pos (by omega), if_pos (by omega), rdS_get l i hlt]
    by_cases hc : l[i].toList = a.toList
    · rw [if_pos hc, place_hit l a i hlt ht hc.symm]
    · rw [if_neg hc, wr (by omega) (by omega)]
      have e : ((i : Int) + 1) = ((i + 1 : Nat) : Int) := by omega
      rw [e]
      refine ih k (i + 1) (by omega) (by omega) (by omega) ?_
      rw [has_take l a i hlt, ht, Bool.false_or, beq_eq_false_iff_ne]
      exact fun e => hc e.symm
theorem l2Place_eq (l : List ByteArray) (hl : l.length ≤ 1048576) (a : ByteArray) (k : Nat) (hk : l.length < k) : spec_l2Place.f k l a = some (placeN l a) := by
  unfold spec_l2Place.f
  exact l2Place_l0 l hl a l.length k 0 (by omega) (by omega) hk (by simp [has])
theorem sIndex_l0 (l : List ByteArray) (hl : l.length ≤ 1048576) (a : ByteArray) (d : Nat) : ∀ (k i : Nat), i ≤ l.length → l.length - i = d → d < k → has (l.take i) a = false → slices_Index_string_string.l0 k l a (l.length : Int) (i : Int) = some (placeN l a) := by
  induction d with
  | zero =>
    intro k i hi hd hk ht
    obtain ⟨k, rfl⟩ := pred_of_lt hk
    simp only [slices_Index_string_string.l0]; rw [if_neg (by omega)]
    rw [List.take_of_length_le (by omega)] at ht
    rw [place_none l a ht]
  | succ d ih =>
    intro k i hi hd hk ht
    obtain ⟨k, rfl⟩ := pred_of_lt hk
    have hlt : i < l.length := by omega
    simp only [slices_Index_string_string.l0]; rw [if_pos (by omega), if_pos (by omega), if_pos (by omega), rdS_get l i hlt]
    by_cases hc : a.toList = l[i].toList
    · rw [if_pos hc, place_hit l a i hlt ht hc]
    · rw [if_neg hc, wr (by omega) (by omega)]
      have e : ((i : Int) + 1) = ((i + 1 : Nat) : Int) := by omega
      rw [e]
      refine ih k (i + 1) (by omega) (by omega) (by omega) ?_
      rw [has_take l a i hlt, ht, Bool.false_or, beq_eq_false_iff_ne]
      exact hc
theorem sIndex_eq (l : List ByteArray) (hl : l.length ≤ 1048576) (a : ByteArray) (k : Nat) (hk : l.length < k) : slices_Index_string_string.f k l a = some (placeN l a) := by
  unfold slices_Index_string_string.f
  exact sIndex_l0 l hl a l.length k 0 (by omega) (by omega) hk (by simp [has])
theorem place_has (l : List ByteArray) (a : ByteArray) : decide (placeN l a ≥ 0) = has l a := by
  by_cases h : has l a = true
  · obtain ⟨x, hx, hb⟩ := List.any_eq_true.1 h
    unfold placeN
    cases hf : l.findIdx? (fun b => a.toList == b.toList) with
    | none =>
      have := List.findIdx?_eq_none_iff.1 hf x hx
      rw [hb] at this; cases this
    | some i => rw [h]; simp
  · rw [place_none l a ((Bool.not_eq_true _).mp h), (Bool.not_eq_true _).mp h]; decide
theorem sContains_eq (l : List ByteArray) (hl : l.length ≤ 1048576) (a : ByteArray) (k : Nat) (hk : l.length < k) : slices_Contains_string_string.f k l a = some (has l a) := by
  unfold slices_Contains_string_string.f
  rw [sIndex_eq l hl a k hk]
  simp only [Option.bind_some]
  rw [place_has]
theorem place_self (l : List ByteArray) (i : Nat) (hi : i < l.length) : (placeN l l[i] = (i : Int)) ↔ has (l.take i) l[i] = false := by
  constructor
  · intro h
    by_cases hc : has (l.take i) l[i] = true
    · exfalso
      obtain ⟨x, hx, hb⟩ := List.any_eq_true.1 hc
      obtain ⟨j, hj, rfl⟩ := List.getElem_of_mem hx
      rw [List.length_take] at hj
      unfold placeN at h
      cases hf : l.findIdx? (fun b => l[i].toList == b.toList) with
      | none => rw [hf] at h; simp at h
      | some m =>
        rw [hf] at h
        have hm : m = i := by
          have h' : (m : Int) = (i : Int) := h
          omega
        subst hm
        have := (List.findIdx?_eq_some_iff_getElem.1 hf).2.2 j (by omega)
        rw [List.getElem_take] at hb
        exact this hb
    · exact (Bool.not_eq_true _).mp hc
  · intro h
    exact place_hit l l[i] i hi h rfl
theorem l2Table_l0 (l : List ByteArray) (hl : l.length ≤ 1048576) (hs : ∀ s ∈ l, s.size ≤ 1048576) (M : Nat) (hM : l.length + 2097160 ≤ M) (d : Nat) : ∀ (k i : Nat), i ≤ l.length → l.length - i = d → M + d < k → spec_l2Table.l0 k (i : Int) l = some (goodT (l.take i) (l.drop i)) := by
  induction d with
  | zero =>
    intro k i hi hd hk
    obtain ⟨k, rfl⟩ := pred_of_lt hk
    simp only [spec_l2Table.l0]; rw [if_neg (by omega), List.drop_eq_nil_of_le (by omega)]
    simp [goodT]
  | succ d ih =>
    intro k i hi hd hk
    obtain ⟨k, rfl⟩ := pred_of_lt hk
    have hlt : i < l.length := by omega
    have hz := hs _ (List.getElem_mem hlt)
    rw [drop_cons l i hlt]
    simp only [spec_l2Table.l0]; rw [if_pos (by omega), if_pos (by omega), rdS_get l i hlt, l2Marks_eq _ hz 1 5 k (by omega), l2Place_eq l hl _ k (by omega)]
    simp only [Option.bind_some, goodT]
    by_cases h1 : isMk l[i] 1 5 = true
    · rw [if_pos h1, h1, Bool.true_and]
      by_cases h2 : placeN l l[i] = (i : Int)
      · rw [if_pos h2, (place_self l i hlt).1 h2, wr (by omega) (by omega)]
        have e : ((i : Int) + 1) = ((i + 1 : Nat) : Int) := by omega
        rw [e, ih k (i + 1) (by omega) (by omega) (by omega), take_snoc l i hlt]
        simp
      · rw [if_neg h2]
        have : has (l.take i) l[i] = true := by
          by_cases hc : has (l.take i) l[i] = true
          · exact hc
          · exact absurd ((place_self l i hlt).2 ((Bool.not_eq_true _).mp hc)) h2
        rw [this]; simp
    · rw [if_neg h1, (Bool.not_eq_true _).mp h1]; simp
theorem l2Table_eq (l : List ByteArray) (hl : l.length ≤ 1048576) (hs : ∀ s ∈ l, s.size ≤ 1048576) (k : Nat) (hk : 4194400 ≤ k) : spec_l2Table.f k l = some (isTab l) := by
  unfold spec_l2Table.f
  rw [l1In_eq]
  simp only [Option.bind_some]
  by_cases h : (decide (1 ≤ (l.length : Int)) && decide ((l.length : Int) ≤ 10)) = true
  · rw [if_pos h]
    have h10 : l.length ≤ 10 := by simp only [Bool.and_eq_true, decide_eq_true_eq] at h; omega
    have := l2Table_l0 l hl hs (l.length + 2097160) (by omega) l.length k 0 (by omega) (by omega) (by omega)
    rw [List.take_zero, List.drop_zero] at this
    simp only [isTab, h, Bool.true_and]
    exact this
  · rw [if_neg h]; simp only [isTab, (Bool.not_eq_true _).mp h, Bool.false_and]
theorem isLetterMarks_eq (s : ByteArray) (hs : s.size ≤ 1048576) : impl_isLetterMarks.f s = some (isMk s 1 5) := by
  unfold impl_isLetterMarks.f
  rw [areMarks_eq s hs]; rfl
theorem isTable_l0 (l : List ByteArray) (hl : l.length ≤ 1048576) (hs : ∀ s ∈ l, s.size ≤ 1048576) (d : Nat) : ∀ (k i : Nat), i ≤ l.length → l.length - i = d → l.length + d < k →
    impl_isTable.l0 k l (l.length : Int) (i : Int) l = some (goodT (l.take i) (l.drop i) && (decide (1 ≤ (l.length : Int)) && decide ((l.length : Int) ≤ 10))) := by
  induction d with
  | zero =>
    intro k i hi hd hk
    obtain ⟨k, rfl⟩ := pred_of_lt hk
    simp only [impl_isTable.l0]; rw [if_neg (by omega), List.drop_eq_nil_of_le (by omega), in_eq]
    simp [goodT]
  | succ d ih =>
    intro k i hi hd hk
    obtain ⟨k, rfl⟩ := pred_of_lt hk
    have hlt : i < l.length := by omega
    have hz := hs _ (List.getElem_mem hlt)
    have c1 : (i : Int) ≤ (l.length : Int) := by omega
    rw [drop_cons l i hlt]
    simp only [impl_isTable.l0]; rw [if_pos (by omega), if_pos (by omega), if_pos (by omega), rdS_get l i hlt, isLetterMarks_eq _ hz]
    simp only [Option.bind_some, goodT]
    by_cases h1 : isMk l[i] 1 5 = true
    · rw [if_pos h1, h1, Bool.true_and, if_pos c1, Int.toNat_natCast, sContains_eq _ (by rw [List.length_take]; omega) _ k (by rw [List.length_take]; omega)]
      simp only [Option.bind_some]
      by_cases h2 : has (l.take i) l[i] = true
      · rw [if_pos h2, h2]; simp
      · rw [if_neg h2, (Bool.not_eq_true _).mp h2, wr (by omega) (by omega)]
        have e : ((i : Int) + 1) = ((i + 1 : Nat) : Int) := by omega
        rw [e, ih k (i + 1) (by omega) (by omega) (by omega), take_snoc l i hlt]
        simp
    · rw [if_neg h1, (Bool.not_eq_true _).mp h1]; simp
theorem isTable_eq (l : List ByteArray) (hl : l.length ≤ 1048576) (hs : ∀ s ∈ l, s.size ≤ 1048576) (k : Nat) (hk : 4194400 ≤ k) : impl_isTable.f k l = some (isTab l) := by
  unfold impl_isTable.f
  have := isTable_l0 l hl hs l.length k 0 (by omega) (by omega) (by omega)
  rw [List.take_zero, List.drop_zero] at this
  rw [show isTab l = (goodT [] l && (decide (1 ≤ (l.length : Int)) && decide ((l.length : Int) ≤ 10))) from Bool.and_comm _ _]
  exact this
/-! in how many ways marks fall into letters, counted alike by both sides (in 64 bits) -/
def fits (s c : ByteArray) (i : Nat) : Bool := decide (i + c.size ≤ s.size) && (s.extract i (i + c.size)).toList == c.toList
theorem stands_eq (s c : ByteArray) (i : Nat) (hs : s.size ≤ 1048576) (hc : c.size ≤ 1048576) (hi : i ≤ s.size) : spec_l3Stands.f s c (i : Int) = some (fits s c i) := by
  have e : wrap64 ((i : Int) + (c.size : Int)) = ((i + c.size : Nat) : Int) := by rw [wr (by omega) (by omega)]; omega
  simp only [spec_l3Stands.f, e, fits]
  by_cases h : i + c.size ≤ s.size
  · rw [if_pos (by omega), if_pos (by omega), if_pos (by omega)]
    simp only [h, decide_true, Bool.true_and, Int.toNat_natCast]
  · rw [if_neg (by omega)]
    simp only [h, decide_false, Bool.false_and]
theorem hasPrefix_eq (s c : ByteArray) (i : Nat) (hs : s.size ≤ 1048576) (hc : c.size ≤ 1048576) (hi : i ≤ s.size) : strings_HasPrefix.f (s.extract i s.size) c = some (fits s c i) := by
  have hz : (s.extract i s.size).size = s.size - i := by rw [ByteArray.size_extract, Nat.min_self]
  have e : (s.extract i s.size).extract 0 c.size = s.extract i (min (i + c.size) s.size) := by
    rw [ByteArray.extract_extract, Nat.add_zero]
  simp only [strings_HasPrefix.f, stringslite_HasPrefix.f, hz, fits, Int.toNat_natCast]
  by_cases h : i + c.size ≤ s.size
  · rw [if_pos (by omega), if_pos (by omega), if_pos (by omega), e, Nat.min_eq_left h]
    simp only [h, decide_true, Bool.true_and, Option.bind_some]
  · rw [if_neg (by omega)]
    simp only [h, decide_false, Bool.false_and, Option.bind_some]
def wput (s : ByteArray) (i : Nat) (c : ByteArray) (x : List Int) : List Int := if fits s c i = true then x.set i (wrap64 (rd x (i : Int) + rd x ((i + c.size : Nat) : Int))) else x
def wstep (s : ByteArray) (i : Nat) (l : List ByteArray) (x : List Int) : List Int := l.foldl (fun x c => wput s i c x) x
def wall (s : ByteArray) (l : List ByteArray) : Nat → List Int → List Int
  | 0, x => x
  | i + 1, x => wall s l i (wstep s i l x)
theorem wput_len (s : ByteArray) (i : Nat) (c : ByteArray) (x : List Int) : (wput s i c x).length = x.length := by unfold wput; split <;> simp
theorem wstep_len (s : ByteArray) (i : Nat) (l : List ByteArray) : ∀ x, (wstep s i l x).length = x.length := by
  unfold wstep
  induction l with
  | nil => intro x; rfl
  | cons c l ih => intro x; rw [List.foldl_cons, ih, wput_len]
theorem wall_len (s : ByteArray) (l : List ByteArray) : ∀ i x, (wall s l i x).length = x.length
  | 0, x => rfl
  | i + 1, x => by rw [wall, wall_len s l i, wstep_len]
theorem wstep_drop (s : ByteArray) (i : Nat) (l : List ByteArray) (j : Nat) (h : j < l.length) (x : List Int) : wstep s i (l.drop j) x = wstep s i (l.drop (j + 1)) (wput s i l[j] x) := by
  rw [drop_cons l j h]; rfl
theorem sWays_l1 (s : ByteArray) (hs : s.size ≤ 1048576) (l : List ByteArray) (hl : l.length ≤ 1048576) (hc : ∀ c ∈ l, c.size ≤ 1048576) (i : Nat) (hi : i < s.size) (k d : Nat) : ∀ (m j : Nat) (x : List Int), m = k + d + 1 → j ≤ l.length → l.length - j = d → x.length = s.size + 1 →
    spec_l3Ways.l1 m s x (i : Int) (j : Int) l = spec_l3Ways.l0 k s (wstep s i (l.drop j) x) ((i : Int) - 1) l := by
  induction d with
  | zero =>
    intro m j x hm hj hd hx
    subst hm
    simp only [spec_l3Ways.l1, Nat.add_zero]; rw [if_neg (by omega), wr (by omega) (by omega), show j = l.length by omega, List.drop_length]; rfl
  | succ d ih =>
    intro m j x hm hj hd hx
    obtain ⟨m, rfl⟩ : ∃ m', m = m' + 1 := ⟨k + d + 1, by omega⟩
    have hlt : j < l.length := by omega
    obtain ⟨c, hcj, hget, hdrop⟩ : ∃ c : ByteArray, c.size ≤ 1048576 ∧ rdOf ByteArray.empty l (j : Int) = c ∧ wstep s i (l.drop j) x = wstep s i (l.drop (j + 1)) (wput s i c x) := ⟨l[j], hc _ (List.getElem_mem hlt), rdS_get l j hlt, wstep_drop s i l j hlt x⟩
    have n := ih m (j + 1) (wput s i c x) (Nat.succ.inj hm) hlt (by rw [Nat.sub_add_eq, hd]; rfl) ((wput_len s i c x).trans hx)
    have c1 : (j : Int) < (l.length : Int) := by omega
    have c2 : (0 : Int) ≤ (j : Int) := by omega
    have c3 : (0 : Int) ≤ (i : Int) := by omega
    have c4 : (i : Int) < (x.length : Int) := by omega
    have hi' : i ≤ s.size := by omega
    have e1 : wrap64 ((j : Int) + 1) = ((j + 1 : Nat) : Int) := by rw [wr (by omega) (by omega)]; omega
    have e2 : wrap64 ((i : Int) + (c.size : Int)) = ((i + c.size : Nat) : Int) := by clear e1; rw [wr (by omega) (by omega)]; omega
    rw [hdrop]
    simp only [spec_l3Ways.l1, c1, c2, c3, c4, if_true, hget, stands_eq s c i hs hcj hi', Option.bind_some, e1, e2]
    clear e1 e2
    by_cases hf : fits s c i = true
    · have hle : i + c.size ≤ s.size := by
        simp only [fits, Bool.and_eq_true, decide_eq_true_eq] at hf; exact hf.1
      rw [if_pos hf, if_pos (by omega), if_pos (by omega), ← n]
      unfold wput
      rw [if_pos hf, Int.toNat_natCast]
    · rw [if_neg hf, ← n]
      unfold wput
      rw [if_neg hf]
theorem iWays_l1 (s : ByteArray) (hs : s.size ≤ 1048576) (l : List ByteArray) (hl : l.length ≤ 1048576) (hc : ∀ c ∈ l, c.size ≤ 1048576) (i : Nat) (hi : i < s.size) (k d : Nat) : ∀ (m j : Nat) (x : List Int), m = k + d + 1 → j ≤ l.length → l.length - j = d → x.length = s.size + 1 →
    impl_ways.l1 m s x (i : Int) l (l.length : Int) (j : Int) l = impl_ways.l0 k s (wstep s i (l.drop j) x) ((i : Int) - 1) l := by
  induction d with
  | zero =>
    intro m j x hm hj hd hx
    subst hm
    simp only [impl_ways.l1, Nat.add_zero]; rw [if_neg (by omega), wr (by omega) (by omega), show j = l.length by omega, List.drop_length]; rfl
  | succ d ih =>
    intro m j x hm hj hd hx
    obtain ⟨m, rfl⟩ : ∃ m', m = m' + 1 := ⟨k + d + 1, by omega⟩
    have hlt : j < l.length := by omega
    obtain ⟨c, hcj, hget, hdrop⟩ : ∃ c : ByteArray, c.size ≤ 1048576 ∧ rdOf ByteArray.empty l (j : Int) = c ∧ wstep s i (l.drop j) x = wstep s i (l.drop (j + 1)) (wput s i c x) := ⟨l[j], hc _ (List.getElem_mem hlt), rdS_get l j hlt, wstep_drop s i l j hlt x⟩
    have n := ih m (j + 1) (wput s i c x) (Nat.succ.inj hm) hlt (by rw [Nat.sub_add_eq, hd]; rfl) ((wput_len s i c x).trans hx)
    have c1 : (j : Int) < (l.length : Int) := by omega
    have c2 : (0 : Int) ≤ (j : Int) := by omega
    have c3 : (0 : Int) ≤ (i : Int) := by omega
    have c4 : (i : Int) < (x.length : Int) := by omega
    have c5 : (i : Int) ≤ (s.size : Int) := by omega
    have hi' : i ≤ s.size := by omega
    have e1 : wrap64 ((j : Int) + 1) = ((j + 1 : Nat) : Int) := by rw [wr (by omega) (by omega)]; omega
    have e2 : wrap64 ((i : Int) + (c.size : Int)) = ((i + c.size : Nat) : Int) := by clear e1; rw [wr (by omega) (by omega)]; omega
    rw [hdrop]
    simp only [impl_ways.l1, c1, c2, c3, c4, c5, if_true, hget, Int.toNat_natCast, hasPrefix_eq s c i hs hcj hi', Option.bind_some, e1, e2]
    clear e1 e2
    by_cases hf : fits s c i = true
    · have hle : i + c.size ≤ s.size := by
        simp only [fits, Bool.and_eq_true, decide_eq_true_eq] at hf; exact hf.1
      rw [if_pos hf, if_pos (by omega), if_pos (by omega), ← n]
      unfold wput
      rw [if_pos hf]
    · rw [if_neg hf, ← n]
      unfold wput
      rw [if_neg hf]
theorem ways_fuel (L k i : Nat) : k + (i + 1) * (L + 2) + 1 = (k + i * (L + 2) + 1) + L + 1 + 1 := by rw [Nat.succ_mul]; omega
theorem sWays_l0 (s : ByteArray) (hs : s.size ≤ 1048576) (l : List ByteArray) (hl : l.length ≤ 1048576) (hc : ∀ c ∈ l, c.size ≤ 1048576) (k : Nat) : ∀ (i : Nat) (x : List Int), i ≤ s.size → x.length = s.size + 1 →
    spec_l3Ways.l0 (k + i * (l.length + 2) + 1) s x ((i : Int) - 1) l = some (wall s l i x)
  | 0, x, hi, hx => by
    simp only [spec_l3Ways.l0]; rw [if_neg (by omega)]; rfl
  | i + 1, x, hi, hx => by
    have ih := sWays_l0 s hs l hl hc k i (wstep s i l x) (by omega) (by rw [wstep_len]; exact hx)
    have st := sWays_l1 s hs l hl hc i (by omega) (k + i * (l.length + 2) + 1) l.length _ 0 x rfl (by omega) (by omega) hx
    rw [List.drop_zero, ih, Int.natCast_zero] at st
    rw [ways_fuel, show ((i + 1 : Nat) : Int) - 1 = (i : Int) by omega]
    simp only [spec_l3Ways.l0]; rw [if_pos (by omega), st]; rfl
theorem iWays_l0 (s : ByteArray) (hs : s.size ≤ 1048576) (l : List ByteArray) (hl : l.length ≤ 1048576) (hc : ∀ c ∈ l, c.size ≤ 1048576) (k : Nat) : ∀ (i : Nat) (x : List Int), i ≤ s.size → x.length = s.size + 1 →
    impl_ways.l0 (k + i * (l.length + 2) + 1) s x ((i : Int) - 1) l = some (wall s l i x)
  | 0, x, hi, hx => by
    simp only [impl_ways.l0]; rw [if_neg (by omega)]; rfl
  | i + 1, x, hi, hx => by
    have ih := iWays_l0 s hs l hl hc k i (wstep s i l x) (by omega) (by rw [wstep_len]; exact hx)
    have st := iWays_l1 s hs l hl hc i (by omega) (k + i * (l.length + 2) + 1) l.length _ 0 x rfl (by omega) (by omega) hx
    rw [List.drop_zero, ih, Int.natCast_zero] at st
    rw [ways_fuel, show ((i + 1 : Nat) : Int) - 1 = (i : Int) by omega]
    simp only [impl_ways.l0]; rw [if_pos (by omega), st]; rfl
def waysL (l : List ByteArray) (s : ByteArray) : List Int := wall s l s.size ((List.replicate (s.size + 1) (0 : Int)).set s.size 1)
theorem waysL_len (l : List ByteArray) (s : ByteArray) : (waysL l s).length = s.size + 1 := by rw [waysL, wall_len]; simp
def wfuel (l : List ByteArray) (s : ByteArray) : Nat := s.size * (l.length + 2) + 1
theorem l3Ways_eq (l : List ByteArray) (hl : l.length ≤ 1048576) (hc : ∀ c ∈ l, c.size ≤ 1048576) (s : ByteArray) (hs : s.size ≤ 1048576) (k : Nat) (hk : wfuel l s ≤ k) : spec_l3Ways.f k l s = some (waysL l s) := by
  obtain ⟨m, rfl⟩ : ∃ m, k = m + s.size * (l.length + 2) + 1 := ⟨k - wfuel l s, by unfold wfuel at *; omega⟩
  have e : wrap64 ((s.size : Int) + 1) = ((s.size + 1 : Nat) : Int) := by rw [wr (by omega) (by omega)]; omega
  have e2 : wrap64 ((s.size : Int) - 1) = (s.size : Int) - 1 := by clear e; rw [wr (by omega) (by omega)]
  simp only [spec_l3Ways.f, e, e2, Int.toNat_natCast, Option.bind_some, List.length_replicate]
  clear e e2
  rw [if_pos (by omega), if_pos (by omega), if_pos (by omega), if_pos (by omega)]
  exact sWays_l0 s hs l hl hc m s.size _ (Nat.le_refl _) (by simp)
theorem iWays_eq (l : List ByteArray) (hl : l.length ≤ 1048576) (hc : ∀ c ∈ l, c.size ≤ 1048576) (s : ByteArray) (hs : s.size ≤ 1048576) (k : Nat) (hk : wfuel l s ≤ k) : impl_ways.f k l s = some (waysL l s) := by
  obtain ⟨m, rfl⟩ : ∃ m, k = m + s.size * (l.length + 2) + 1 := ⟨k - wfuel l s, by unfold wfuel at *; omega⟩
  have e : wrap64 ((s.size : Int) + 1) = ((s.size + 1 : Nat) : Int) := by rw [wr (by omega) (by omega)]; omega
  have e2 : wrap64 ((s.size : Int) - 1) = (s.size : Int) - 1 := by clear e; rw [wr (by omega) (by omega)]
  simp only [impl_ways.f, e, e2, Int.toNat_natCast, Option.bind_some, List.length_replicate]
  clear e e2
  rw [if_pos (by omega), if_pos (by omega), if_pos (by omega), if_pos (by omega)]
  exact iWays_l0 s hs l hl hc m s.size _ (Nat.le_refl _) (by simp)
/-- no two letters of a table that stand at one place are equally long -/
theorem goodT_mem : ∀ (l seen : List ByteArray), goodT seen l = true → (∀ c ∈ l, 1 ≤ c.size ∧ c.size ≤ 5 ∧ ∀ b ∈ seen, c ≠ b) ∧ l.Nodup
  | [], _, _ => ⟨fun c h => absurd h (by simp), List.nodup_nil⟩
  | a :: t, seen, h => by
    simp only [goodT, Bool.and_eq_true, Bool.not_eq_true'] at h
    obtain ⟨h1, h2, h3⟩ := h
    obtain ⟨i1, i2⟩ := goodT_mem t (seen ++ [a]) h3
    refine ⟨fun c hc => ?_, ?_⟩
    · rcases List.mem_cons.1 hc with rfl | hc
      · simp only [isMk, Bool.and_eq_true, decide_eq_true_eq] at h1
        refine ⟨by omega, by omega, fun b hb e => ?_⟩
        have := List.any_eq_false.1 h2 b hb
        rw [e] at this; simp at this
      · obtain ⟨a1, a2, a3⟩ := i1 c hc
        exact ⟨a1, a2, fun b hb => a3 b (by simp [hb])⟩
    · rw [List.nodup_cons]
      exact ⟨fun hm => (i1 a hm).2.2 a (by simp) rfl, i2⟩
theorem isTab_mem (l : List ByteArray) (h : isTab l = true) : (∀ c ∈ l, 1 ≤ c.size ∧ c.size ≤ 5) ∧ l.Nodup ∧ 1 ≤ l.length ∧ l.length ≤ 10 := by
  simp only [isTab, Bool.and_eq_true, decide_eq_true_eq] at h
  obtain ⟨h1, h2⟩ := goodT_mem l [] h.2
  exact ⟨fun c hc => ⟨(h1 c hc).1, (h1 c hc).2.1⟩, h2, by omega, by omega⟩
/-! how many readings come before one -/
def letOk (n : Nat) (c : UInt8) : Bool := decide (97 ≤ c.toNat) && decide (c.toNat < 97 + n)
def mk1 (T : List ByteArray) (c : UInt8) : ByteArray := T.getD (c.toNat - 97) ByteArray.empty
def bareB (T : List ByteArray) : List UInt8 → ByteArray → ByteArray
  | [], acc => acc
  | c :: L, acc => bareB T L (acc ++ mk1 T c)
def blen (T : List ByteArray) : List UInt8 → Nat
  | [] => 0
  | c :: L => (mk1 T c).size + blen T L
theorem bareB_size (T : List ByteArray) : ∀ (L : List UInt8) (acc : ByteArray), (bareB T L acc).size = acc.size + blen T L
  | [], acc => rfl
  | c :: L, acc => by simp only [bareB, blen]; rw [bareB_size T L, ByteArray.size_append]; omega
theorem mk1_size (T : List ByteArray) (hT : ∀ c ∈ T, c.size ≤ 5) (c : UInt8) : (mk1 T c).size ≤ 5 := by
  unfold mk1
  rw [List.getD_eq_getElem?_getD]
  by_cases h : c.toNat - 97 < T.length
  · rw [List.getElem?_eq_getElem h]; exact hT _ (List.getElem_mem h)
  · rw [List.getElem?_eq_none (by omega)]; exact Nat.zero_le 5
theorem blen_le (T : List ByteArray) (hT : ∀ c ∈ T, c.size ≤ 5) : ∀ L : List UInt8, blen T L ≤ 5 * L.length
  | [] => Nat.le_refl _
  | c :: L => by
    have := mk1_size T hT c
    have := blen_le T hT L
    simp only [blen, List.length_cons]; omega
theorem byte_lt (c : UInt8) : c.toNat < 256 := c.toNat_lt
theorem let_num (c : UInt8) : wrap64 (wrap64 ((c.toNat : Nat) : Int) - 97) = ((c.toNat : Nat) : Int) - 97 := by
  have := byte_lt c
  rw [wr (i := ((c.toNat : Nat) : Int)) (by omega) (by omega), wr (by omega) (by omega)]
theorem rd_mk1 (T : List ByteArray) (c : UInt8) (h : 97 ≤ c.toNat) : rdOf ByteArray.empty T (((c.toNat : Nat) : Int) - 97) = mk1 T c := by
  unfold mk1 rdOf
  rw [show (((c.toNat : Nat) : Int) - 97).toNat = c.toNat - 97 by omega]
theorem sLet_l0 (T : List ByteArray) (hT : T.length ≤ 10) (m : ByteArray) (hm : m.size ≤ 1048576) (d : Nat) : ∀ (k i : Nat), i ≤ m.size → m.size - i = d → d < k →
    spec_l3Letters.l0 k m (i : Int) T = some ((m.data.toList.drop i).all (letOk T.length)) := by
  have hsz := size_data m
  induction d with
  | zero =>
    intro k i hi hd hk
    obtain ⟨k, rfl⟩ := pred_of_lt hk
    simp only [spec_l3Letters.l0]
    rw [if_neg (by omega), List.drop_eq_nil_of_le (by omega)]; rfl
  | succ d ih =>
    intro k i hi hd hk
    obtain ⟨k, rfl⟩ := pred_of_lt hk
    have hlt : i < m.data.toList.length := by omega
    have n := ih k (i + 1) (by omega) (by omega) (by omega)
    have e1 : wrap64 ((i : Int) + 1) = ((i + 1 : Nat) : Int) := by rw [wr (by omega) (by omega)]; omega
    have e2 : wrap64 ((T.length : Int) - 1) = (T.length : Int) - 1 := by clear e1; rw [wr (by omega) (by omega)]
    simp only [spec_l3Letters.l0, e1, e2, l1In_eq, Option.bind_some]
    rw [if_pos (by omega), if_pos (by omega), bt_nat m i (by omega), let_num, List.drop_eq_getElem_cons hlt, List.all_cons]
    have e3 : (decide (0 ≤ ((m.data.toList[i].toNat : Nat) : Int) - 97) && decide (((m.data.toList[i].toNat : Nat) : Int) - 97 ≤ (T.length : Int) - 1)) = letOk T.length m.data.toList[i] := by
      clear e1 e2
      unfold letOk
      congr 1
      · rw [decide_eq_decide]; omega
      · rw [decide_eq_decide]; omega
    rw [e3]
    by_cases h : letOk T.length m.data.toList[i] = true
    · rw [if_pos h, h, Bool.true_and]; exact n
    · rw [if_neg h, (Bool.not_eq_true _).mp h, Bool.false_and]
theorem letOk_le {n : Nat} {c : UInt8} (h : letOk n c = true) : 97 ≤ c.toNat ∧ c.toNat < 97 + n := by
  simpa [letOk] using h
theorem sBare_l0 (T : List ByteArray) (hT : T.length ≤ 10) (hT5 : ∀ c ∈ T, c.size ≤ 5) (m : ByteArray) (hm : m.size ≤ 1048576) (hok : m.data.toList.all (letOk T.length) = true) (d : Nat) : ∀ (k i : Nat) (acc : ByteArray), i ≤ m.size → m.size - i = d → d < k → acc.size + 5 * d ≤ 10000000 →
    spec_l2Bare.l0 k m acc (i : Int) T = some (bareB T (m.data.toList.drop i) acc) := by
  have hsz := size_data m
  induction d with
  | zero =>
    intro k i acc hi hd hk ha
    obtain ⟨k, rfl⟩ := pred_of_lt hk
    simp only [spec_l2Bare.l0]
    rw [if_neg (by omega), List.drop_eq_nil_of_le (by omega)]; rfl
  | succ d ih =>
    intro k i acc hi hd hk ha
    obtain ⟨k, rfl⟩ := pred_of_lt hk
    have hlt : i < m.data.toList.length := by omega
    obtain ⟨c, hcl, hc0, hdrop⟩ : ∃ c : UInt8, bt m (i : Int) = ((c.toNat : Nat) : Int) ∧ letOk T.length c = true ∧ m.data.toList.drop i = c :: m.data.toList.drop (i + 1) := ⟨m.data.toList[i], bt_nat m i (by omega), List.all_eq_true.1 hok _ (List.getElem_mem hlt), List.drop_eq_getElem_cons hlt⟩
    have hc := letOk_le hc0
    have h5 := mk1_size T hT5 c
    have n := ih k (i + 1) (acc ++ mk1 T c) (by omega) (by omega) (by omega) (by rw [ByteArray.size_append]; omega)
    have c1 : (i : Int) < (m.size : Int) := by clear ih n; omega
    have c2 : (0 : Int) ≤ (i : Int) := by clear ih n; omega
    have n32 : (((c.toNat : Nat) : Int) = 32) = False := eq_false (by clear ih n; omega)
    have g1 : (0 : Int) ≤ ((c.toNat : Nat) : Int) - 97 := by clear ih n n32; omega
    have g2 : ((c.toNat : Nat) : Int) - 97 < (T.length : Int) := by clear ih n n32; omega
    have g3 : acc.size + (mk1 T c).size ≤ 9223372036854775807 := by clear ih n n32; omega
    have e1 : wrap64 ((i : Int) + 1) = ((i + 1 : Nat) : Int) := by clear ih n n32; rw [wr (by omega) (by omega)]; omega
    simp only [spec_l2Bare.l0, e1, c1, c2, if_true, hcl, n32, if_false, let_num, g1, g2, rd_mk1 T c hc.1, g3]
    rw [hdrop]
    exact n
def radd (s : ByteArray) (i : Nat) (W : List Int) : List ByteArray → Int → Int
  | [], x => x
  | c :: l, x => radd s i W l (if fits s c i = true then wrap64 (x + rd W ((i + c.size : Nat) : Int)) else x)
def rk (T : List ByteArray) (s : ByteArray) (W : List Int) : List UInt8 → Nat → Int → Int
  | [], _, x => x
  | c :: L, i, x => rk T s W L (i + (mk1 T c).size) (radd s i W (T.take (c.toNat - 97)) x)
theorem sRank_l1 (T : List ByteArray) (hT : T.length ≤ 10) (hT5 : ∀ c ∈ T, c.size ≤ 5) (m s : ByteArray) (hm : m.size ≤ 1048576) (hs : s.size ≤ 1048576) (W : List Int) (hW : W.length = s.size + 1) (p : Nat) (hp : p < m.size) (c : UInt8) (hc : 97 ≤ c.toNat ∧ c.toNat < 97 + T.length) (i : Nat) (hi : i + (mk1 T c).size ≤ s.size) (q d : Nat) : ∀ (f j : Nat) (x : Int), f = q + d + 1 → j ≤ c.toNat - 97 → c.toNat - 97 - j = d →
    spec_RankOfReading.l1 f m s x (i : Int) W (p : Int) (((c.toNat : Nat) : Int) - 97) (j : Int) T = spec_RankOfReading.l0 q m s (radd s i W ((T.take (c.toNat - 97)).drop j) x) ((i + (mk1 T c).size : Nat) : Int) W ((p + 1 : Nat) : Int) T := by
  have e1 : wrap64 ((p : Int) + 1) = ((p + 1 : Nat) : Int) := by rw [wr (by omega) (by omega)]; omega
  have e2 : wrap64 ((i : Int) + ((mk1 T c).size : Int)) = ((i + (mk1 T c).size : Nat) : Int) := by clear e1; rw [wr (by omega) (by omega)]; omega
  induction d with
  | zero =>
    intro f j x hf hj hd
    subst hf
    simp only [spec_RankOfReading.l1, Nat.add_zero, rd_mk1 T c hc.1, e1, e2]
    clear e1 e2
    rw [if_neg (by omega), if_pos (by omega), if_pos (by omega), List.drop_eq_nil_of_le (by rw [List.length_take]; omega)]; rfl
  | succ d ih =>
    intro f j x hf hj hd
    obtain ⟨f, rfl⟩ : ∃ f', f = f' + 1 := ⟨q + d + 1, by clear e1 e2 ih; omega⟩
    have hlt : j < T.length := by clear e1 e2 ih; omega
    have hlt2 : j < (T.take (c.toNat - 97)).length := by rw [List.length_take]; clear e1 e2 ih; omega
    obtain ⟨b, hb5, hget, hdrop⟩ : ∃ b : ByteArray, b.size ≤ 5 ∧ rdOf ByteArray.empty T (j : Int) = b ∧ (T.take (c.toNat - 97)).drop j = b :: (T.take (c.toNat - 97)).drop (j + 1) := ⟨T[j], hT5 _ (List.getElem_mem hlt), rdS_get T j hlt, by rw [List.drop_eq_getElem_cons hlt2, List.getElem_take]⟩
    have n := ih f (j + 1) (if fits s b i = true then wrap64 (x + rd W ((i + b.size : Nat) : Int)) else x) (by clear e1 e2 ih; omega) (by clear e1 e2 ih; omega) (by clear e1 e2 ih; omega)
    have c1 : (j : Int) < ((c.toNat : Nat) : Int) - 97 := by clear e1 e2 ih n; omega
    have c2 : (0 : Int) ≤ (j : Int) := by clear e1 e2 ih n; omega
    have c3 : (j : Int) < (T.length : Int) := by clear e1 e2 ih n; omega
    have e3 : wrap64 ((j : Int) + 1) = ((j + 1 : Nat) : Int) := by clear e1 e2 ih n; rw [wr (by omega) (by omega)]; omega
    have e4 : wrap64 ((i : Int) + (b.size : Int)) = ((i + b.size : Nat) : Int) := by clear e1 e2 e3 ih n; rw [wr (by omega) (by omega)]; omega
    rw [hdrop]
    simp only [spec_RankOfReading.l1, c1, c2, c3, if_true, hget, stands_eq s b i hs (by clear e1 e2 e3 e4 ih n; omega) (by clear e1 e2 e3 e4 ih n; omega), Option.bind_some, e3, e4, radd]
    clear e1 e2 e3 e4
    rw [← n]
    by_cases hf : fits s b i = true
    · have hle := hf
      simp only [fits, Bool.and_eq_true, decide_eq_true_eq] at hle
      rw [if_pos hf, if_pos hf, if_pos (by clear ih n; omega), if_pos (by rw [hW]; clear ih n; omega)]
    · rw [if_neg hf, if_neg hf]
theorem iRank_l2 (T : List ByteArray) (hT : T.length ≤ 10) (hT5 : ∀ c ∈ T, c.size ≤ 5) (m s : ByteArray) (hm : m.size ≤ 1048576) (hs : s.size ≤ 1048576) (W : List Int) (hW : W.length = s.size + 1) (p : Nat) (hp : p < m.size) (c : UInt8) (hc : 97 ≤ c.toNat ∧ c.toNat < 97 + T.length) (i : Nat) (hi : i + (mk1 T c).size ≤ s.size) (q d : Nat) (U : List ByteArray) (hU : U = T.take (c.toNat - 97)) : ∀ (f j : Nat) (x : Int), f = q + d + 1 → j ≤ U.length → U.length - j = d →
    impl_RankOfReading.l2 f m s W (i : Int) x (((c.toNat : Nat) : Int) - 97) (m.size : Int) (p : Int) U (U.length : Int) (j : Int) T = impl_RankOfReading.l1 q m s W ((i + (mk1 T c).size : Nat) : Int) (radd s i W (U.drop j) x) (m.size : Int) ((p + 1 : Nat) : Int) T := by
  have e1 : wrap64 ((p : Int) + 1) = ((p + 1 : Nat) : Int) := by rw [wr (by omega) (by omega)]; omega
  have e2 : wrap64 ((i : Int) + ((mk1 T c).size : Int)) = ((i + (mk1 T c).size : Nat) : Int) := by clear e1; rw [wr (by omega) (by omega)]; omega
  have hUl : U.length ≤ 10 := by rw [hU, List.length_take]; clear e1 e2; omega
  have hU5 : ∀ c ∈ U, c.size ≤ 5 := fun b hb => hT5 b (by rw [hU] at hb; exact List.mem_of_mem_take hb)
  clear hU
  induction d with
  | zero =>
    intro f j x hf hj hd
    subst hf
    simp only [impl_RankOfReading.l2, Nat.add_zero, rd_mk1 T c hc.1, e1, e2]
    clear e1 e2
    rw [if_neg (by omega), if_pos (by omega), if_pos (by omega), List.drop_eq_nil_of_le (by omega)]; rfl
  | succ d ih =>
    intro f j x hf hj hd
    obtain ⟨f, rfl⟩ : ∃ f', f = f' + 1 := ⟨q + d + 1, by clear e1 e2 ih; omega⟩
    have hlt : j < U.length := by clear e1 e2 ih; omega
    obtain ⟨b, hb5, hget, hdrop⟩ : ∃ b : ByteArray, b.size ≤ 5 ∧ rdOf ByteArray.empty U (j : Int) = b ∧ U.drop j = b :: U.drop (j + 1) := ⟨U[j], hU5 _ (List.getElem_mem hlt), rdS_get U j hlt, List.drop_eq_getElem_cons hlt⟩
    have n := ih f (j + 1) (if fits s b i = true then wrap64 (x + rd W ((i + b.size : Nat) : Int)) else x) (by clear e1 e2 ih; omega) (by clear e1 e2 ih; omega) (by clear e1 e2 ih; omega)
    have c1 : (j : Int) < (U.length : Int) := by clear e1 e2 ih n; omega
    have c2 : (0 : Int) ≤ (j : Int) := by clear e1 e2 ih n; omega
    have c4 : (0 : Int) ≤ (i : Int) := by clear e1 e2 ih n; omega
    have c5 : (i : Int) ≤ (s.size : Int) := by clear e1 e2 ih n; omega
    have e3 : wrap64 ((j : Int) + 1) = ((j + 1 : Nat) : Int) := by clear e1 e2 ih n; rw [wr (by omega) (by omega)]; omega
    have e4 : wrap64 ((i : Int) + (b.size : Int)) = ((i + b.size : Nat) : Int) := by clear e1 e2 e3 ih n; rw [wr (by omega) (by omega)]; omega
    rw [hdrop]
    simp only [impl_RankOfReading.l2, c1, c2, c4, c5, if_true, hget, Int.toNat_natCast, hasPrefix_eq s b i hs (by clear e1 e2 e3 e4 ih n; omega) (by clear e1 e2 e3 e4 ih n; omega), Option.bind_some, e3, e4, radd]
    clear e1 e2 e3 e4
    rw [← n]
    by_cases hf : fits s b i = true
    · have hle := hf
      simp only [fits, Bool.and_eq_true, decide_eq_true_eq] at hle
      rw [if_pos hf, if_pos hf, if_pos (by clear ih n; omega), if_pos (by rw [hW]; clear ih n; omega)]
    · rw [if_neg hf, if_neg hf]
theorem rank_l (T : List ByteArray) (hT : T.length ≤ 10) (hT5 : ∀ c ∈ T, c.size ≤ 5) (m s : ByteArray) (hm : m.size ≤ 1048576) (hs : s.size ≤ 1048576) (hok : m.data.toList.all (letOk T.length) = true) (W : List Int) (hW : W.length = s.size + 1) (d : Nat) : ∀ (k p i : Nat) (x : Int), p ≤ m.size → m.size - p = d → 20 * d < k → i + blen T (m.data.toList.drop p) = s.size →
    spec_RankOfReading.l0 k m s x (i : Int) W (p : Int) T = some (rk T s W (m.data.toList.drop p) i x, true) ∧ impl_RankOfReading.l1 k m s W (i : Int) x (m.size : Int) (p : Int) T = some (rk T s W (m.data.toList.drop p) i x, true) := by
  have hsz := size_data m
  induction d with
  | zero =>
    intro k p i x hp hd hk hi
    obtain ⟨k, rfl⟩ := pred_of_lt hk
    simp only [spec_RankOfReading.l0, impl_RankOfReading.l1]
    rw [if_neg (by omega), if_neg (by omega), List.drop_eq_nil_of_le (by omega)]
    exact ⟨rfl, rfl⟩
  | succ d ih =>
    intro k p i x hp hd hk hi
    obtain ⟨k, rfl⟩ := pred_of_lt hk
    have hlt : p < m.data.toList.length := by omega
    obtain ⟨c, hcl, hc, hdrop⟩ : ∃ c : UInt8, bt m (p : Int) = ((c.toNat : Nat) : Int) ∧ letOk T.length c = true ∧ m.data.toList.drop p = c :: m.data.toList.drop (p + 1) := ⟨m.data.toList[p], bt_nat m p (by omega), List.all_eq_true.1 hok _ (List.getElem_mem hlt), List.drop_eq_getElem_cons hlt⟩
    have hc' := letOk_le hc
    rw [hdrop] at hi ⊢
    simp only [blen] at hi
    have hn := byte_lt c
    obtain ⟨q1, hq1⟩ : ∃ q, k = q + (c.toNat - 97) + 1 := ⟨k - (c.toNat - 97) - 1, by clear ih; omega⟩
    have hlU : (T.take (c.toNat - 97)).length = c.toNat - 97 := by rw [List.length_take]; clear ih; omega
    have s1 := sRank_l1 T hT hT5 m s hm hs W hW p (by clear ih; omega) c hc' i (by clear ih; omega) q1 (c.toNat - 97) k 0 x hq1 (by clear ih; omega) (by clear ih; omega)
    have s2 := iRank_l2 T hT hT5 m s hm hs W hW p (by clear ih; omega) c hc' i (by clear ih; omega) q1 (c.toNat - 97) _ rfl k 0 x hq1 (by clear ih; omega) (by rw [hlU]; clear ih; omega)
    have n := ih q1 (p + 1) (i + (mk1 T c).size) (radd s i W (T.take (c.toNat - 97)) x) (by clear ih; omega) (by clear ih; omega) (by clear ih; omega) (by clear ih; omega)
    rw [List.drop_zero, n.1, Int.natCast_zero] at s1
    rw [List.drop_zero, n.2, Int.natCast_zero] at s2
    have e5 : (((c.toNat : Nat) : Int) - 97) % 256 = ((c.toNat : Nat) : Int) - 97 := by clear ih n s1 s2; omega
    have e6 : (((c.toNat : Nat) : Int) - 97).toNat = c.toNat - 97 := by clear ih n s1 s2 e5; omega
    have c1 : (p : Int) < (m.size : Int) := by clear ih n s1 s2 e5 e6; omega
    have c2 : (0 : Int) ≤ (p : Int) := by clear ih n s1 s2 e5 e6; omega
    have g1 : (0 : Int) ≤ ((c.toNat : Nat) : Int) - 97 := by clear ih n s1 s2 e5 e6; omega
    have g2 : ((c.toNat : Nat) : Int) - 97 ≤ (T.length : Int) := by clear ih n s1 s2 e5 e6; omega
    simp only [spec_RankOfReading.l0, impl_RankOfReading.l1, hcl, let_num, e5, e6, c1, c2, g1, g2, if_true]
    exact ⟨s1, s2⟩
theorem iRank_l0 (T : List ByteArray) (hT : T.length ≤ 10) (hT5 : ∀ c ∈ T, c.size ≤ 5) (m : ByteArray) (hm : m.size ≤ 1048576) (q d : Nat) : ∀ (k i : Nat) (acc : ByteArray), k = q + d + 1 → i ≤ m.size → m.size - i = d → acc.size + 5 * d ≤ 10000000 →
    impl_RankOfReading.l0 k m acc (m.size : Int) (i : Int) T = if (m.data.toList.drop i).all (letOk T.length) = true then (impl_IsBare.f (bareB T (m.data.toList.drop i) acc)).bind fun t186 => (if t186 = true then ((impl_ways.f q T (bareB T (m.data.toList.drop i) acc)).bind fun t187 => (impl_RankOfReading.l1 q m (bareB T (m.data.toList.drop i) acc) t187 0 0 (m.size : Int) 0 T)) else (some (0, false))) else some (0, false) := by
  have hsz := size_data m
  induction d with
  | zero =>
    intro k i acc hk hi hd ha
    subst hk
    simp only [impl_RankOfReading.l0, Nat.add_zero]
    rw [if_neg (by omega), List.drop_eq_nil_of_le (by omega), if_pos (by rfl)]; rfl
  | succ d ih =>
    intro k i acc hk hi hd ha
    obtain ⟨k, rfl⟩ : ∃ k', k = k' + 1 := ⟨q + d + 1, by omega⟩
    have hlt : i < m.data.toList.length := by omega
    obtain ⟨c, hcl, hdrop⟩ : ∃ c : UInt8, bt m (i : Int) = ((c.toNat : Nat) : Int) ∧ m.data.toList.drop i = c :: m.data.toList.drop (i + 1) := ⟨m.data.toList[i], bt_nat m i (by omega), List.drop_eq_getElem_cons hlt⟩
    have h5 := mk1_size T hT5 c
    have n := ih k (i + 1) (acc ++ mk1 T c) (by omega) (by omega) (by omega) (by rw [ByteArray.size_append]; omega)
    have e1 : wrap64 ((i : Int) + 1) = ((i + 1 : Nat) : Int) := by rw [wr (by omega) (by omega)]; omega
    have e2 : wrap64 ((T.length : Int) - 1) = (T.length : Int) - 1 := by clear e1; rw [wr (by omega) (by omega)]
    have e3 : (decide (0 ≤ ((c.toNat : Nat) : Int) - 97) && decide (((c.toNat : Nat) : Int) - 97 ≤ (T.length : Int) - 1)) = letOk T.length c := by
      clear e1 e2
      unfold letOk
      congr 1
      · rw [decide_eq_decide]; omega
      · rw [decide_eq_decide]; omega
    have c1 : (i : Int) < (m.size : Int) := by clear ih n e1 e2 e3; omega
    have c2 : (0 : Int) ≤ (i : Int) := by clear ih n e1 e2 e3; omega
    by_cases h : letOk T.length c = true
    · have hc := letOk_le h
      have g1 : (0 : Int) ≤ ((c.toNat : Nat) : Int) - 97 := by clear ih n e1 e2 e3; omega
      have g2 : ((c.toNat : Nat) : Int) - 97 < (T.length : Int) := by clear ih n e1 e2 e3; omega
      have g3 : acc.size + (mk1 T c).size ≤ 9223372036854775807 := by clear ih n e1 e2 e3; omega
      simp only [impl_RankOfReading.l0, hcl, let_num, impl_isLetter.f, in_eq, e1, e2, e3, Option.bind_some, c1, c2, if_true, h]
      simp only [g1, g2, g3, if_true, rd_mk1 T c hc.1]
      rw [hdrop, List.all_cons, h, Bool.true_and]
      exact n
    · simp only [impl_RankOfReading.l0, hcl, let_num, impl_isLetter.f, in_eq, e1, e2, e3, Option.bind_some, c1, c2, if_true, (Bool.not_eq_true _).mp h, Bool.false_eq_true, if_false]
      rw [hdrop, List.all_cons, (Bool.not_eq_true _).mp h, Bool.false_and, if_neg (by decide)]
/-! a law whose function is handed a table, and answers something and a bool -/
theorem law_RankOfReading (l0 : List ByteArray) (a1 : ByteArray) (hsz : ¬ (a1.size : Int) > 1048576) (hl : l0.length ≤ maxLen) (hs : ∀ s ∈ l0, s.size ≤ maxLen) (K : Nat)
    (h : l0.length ≤ 1048576 → (∀ s ∈ l0, s.size ≤ 1048576) → ∃ R, ∀ k, K ≤ k → spec_RankOfReading.f k l0 a1 = some R ∧ impl_RankOfReading.f k l0 a1 = some R) : ∃ k, laws_FnExactRankOfReading.f k l0 a1 = some true := by
  skip
  obtain ⟨t, ht, hb⟩ := szTable_eq l0 hl hs
  by_cases h0 : t < 0
  · refine ⟨l0.length + 1, ?_⟩
    unfold laws_FnExactRankOfReading.f
    simp only [ht (l0.length + 1) (by omega), Option.bind_some, h0, if_true, if_false, ite_self, hsz]
  · obtain ⟨h1, h2⟩ := hb (by omega)
    obtain ⟨R, hR⟩ := h h1 h2
    obtain ⟨M, hM⟩ : ∃ M : Nat, K ≤ M ∧ 4194400 ≤ M := ⟨K + 4194400, by omega, by omega⟩
    refine ⟨M + 1, ?_⟩
    have r := hR (M + 1) (by omega)
    unfold laws_FnExactRankOfReading.f
    simp only [ht (M + 1) (by omega), Option.bind_some, h0, if_false, hsz]
    simp only [toTable_eq l0 h1 (M + 1) (by omega), r.1, r.2, Option.bind_some, bne_self_eq_false, Bool.false_eq_true, if_false, if_true]
    simp only [laws_FnExactRankOfReading.j0, toTable_eq l0 h1 (M) (by omega), eqTable_self l0 h1 (M) (by omega), Option.bind_some, Bool.false_eq_true, if_false, if_true]
theorem FnExactRankOfReading : laws_FnExactRankOfReading.Pure := by
  intro l a1 hl hs _
  by_cases hsz : (a1.size : Int) > 1048576
  · refine ⟨0, ?_⟩
    unfold laws_FnExactRankOfReading.f
    rw [if_pos hsz]
  refine law_RankOfReading l a1 hsz hl hs 8398401 fun h1 h2 => ?_
  have off : ∀ k, 0 < k → spec_RankOfReading.j0 k a1 true l = some (0, false) ∧ impl_RankOfReading.j0 k a1 true l = some (0, false) := by
    intro k hk
    obtain ⟨k, rfl⟩ := pred_of_lt hk
    simp only [spec_RankOfReading.j0, impl_RankOfReading.j0, if_true]
    exact ⟨trivial, trivial⟩
  by_cases ht : isTab l = true
  · obtain ⟨hmem, _, hl1, hl10⟩ := isTab_mem l ht
    have hl5 : ∀ c ∈ l, c.size ≤ 5 := fun c hc => (hmem c hc).2
    by_cases h40 : (a1.size : Int) > 40
    · refine ⟨(0, false), fun k hk => ?_⟩
      unfold spec_RankOfReading.f impl_RankOfReading.f
      rw [l2Table_eq l h1 h2 k (by omega), isTable_eq l h1 h2 k (by omega), ht]
      simp only [Option.bind_some, if_true, h40, decide_true]
      exact off k (by omega)
    · have hd40 : decide ((a1.size : Int) > 40) = false := by simpa using h40
      have hsz := size_data a1
      have hle := blen_le l hl5 a1.data.toList
      have hbz := bareB_size l a1.data.toList (⟨#[]⟩ : ByteArray)
      have hz0 : (⟨#[]⟩ : ByteArray).size = 0 := rfl
      obtain ⟨s, hs⟩ : ∃ s, s = bareB l a1.data.toList (⟨#[]⟩ : ByteArray) := ⟨_, rfl⟩
      rw [← hs, hz0] at hbz
      have hs200 : s.size ≤ 200 := by omega
      have hwf : wfuel l s ≤ 200 * 12 + 1 := by
        unfold wfuel
        have : s.size * (l.length + 2) ≤ 200 * 12 := Nat.mul_le_mul hs200 (by omega)
        omega
      have I0 := fun q => iRank_l0 l hl10 hl5 a1 (by omega) q a1.size (q + a1.size + 1) 0 (⟨#[]⟩ : ByteArray) rfl (by omega) (by omega) (by omega)
      simp only [List.drop_zero, Int.natCast_zero, ← hs] at I0
      by_cases hok : a1.data.toList.all (letOk l.length) = true
      · by_cases hb : isMk s 0 40 = true
        · refine ⟨(rk l s (waysL l s) a1.data.toList 0 0, true), fun K hK => ?_⟩
          obtain ⟨k, hk', hkM⟩ : ∃ k, K = k + a1.size + 1 + 1 ∧ 8398000 ≤ k := ⟨K - a1.size - 2, by clear I0 off; omega, by clear I0 off; omega⟩
          clear hK; subst hk'
          have r1 := rank_l l hl10 hl5 a1 s (by omega) (by omega) hok (waysL l s) (waysL_len l s) a1.size (k + a1.size + 1) 0 0 0 (by omega) (by omega) (by omega) (by rw [List.drop_zero]; omega)
          have r2 := rank_l l hl10 hl5 a1 s (by omega) (by omega) hok (waysL l s) (waysL_len l s) a1.size k 0 0 0 (by omega) (by omega) (by omega) (by rw [List.drop_zero]; omega)
          simp only [List.drop_zero, Int.natCast_zero] at r1 r2
          have L := sLet_l0 l hl10 a1 (by omega) a1.size (k + a1.size + 1 + 1) 0 (by omega) (by omega) (by omega)
          have B := sBare_l0 l hl10 hl5 a1 (by omega) hok a1.size (k + a1.size + 1) 0 (⟨#[]⟩ : ByteArray) (by omega) (by omega) (by omega) (by omega)
          simp only [List.drop_zero, Int.natCast_zero, ← hs] at L B
          have hw1 := l3Ways_eq l h1 h2 s (by omega) (k + a1.size + 1) (by omega)
          have hw2 := iWays_eq l h1 h2 s (by omega) k (by omega)
          have hm1 := l2Marks_eq s (by omega) 0 40 (k + a1.size + 1) (by omega)
          have hm2 := areMarks_eq s (by omega) 0 40
          unfold spec_RankOfReading.f impl_RankOfReading.f
          rw [l2Table_eq l h1 h2 _ (by omega), isTable_eq l h1 h2 _ (by omega), ht]
          simp only [Option.bind_some, if_true, h40, if_false, hd40, spec_l3Letters.f, L, hok, Bool.not_true, spec_RankOfReading.j0, impl_RankOfReading.j0, Bool.false_eq_true, spec_l2Bare.f, B, spec_l3Bare.f, impl_IsBare.f, hm1, hm2, hb, hw1, hw2, r1.1, r2.2, I0]
          exact ⟨trivial, if_neg (by simp)⟩
        · have hb' := (Bool.not_eq_true _).mp hb
          refine ⟨(0, false), fun K hK => ?_⟩
          obtain ⟨k, hk', hkM⟩ : ∃ k, K = k + a1.size + 1 + 1 ∧ 8398000 ≤ k := ⟨K - a1.size - 2, by clear I0 off; omega, by clear I0 off; omega⟩
          clear hK; subst hk'
          have L := sLet_l0 l hl10 a1 (by omega) a1.size (k + a1.size + 1 + 1) 0 (by omega) (by omega) (by omega)
          have B := sBare_l0 l hl10 hl5 a1 (by omega) hok a1.size (k + a1.size + 1) 0 (⟨#[]⟩ : ByteArray) (by omega) (by omega) (by omega) (by omega)
          simp only [List.drop_zero, Int.natCast_zero, ← hs] at L B
          have hm1 := l2Marks_eq s (by omega) 0 40 (k + a1.size + 1) (by omega)
          have hm2 := areMarks_eq s (by omega) 0 40
          unfold spec_RankOfReading.f impl_RankOfReading.f
          rw [l2Table_eq l h1 h2 _ (by omega), isTable_eq l h1 h2 _ (by omega), ht]
          simp only [Option.bind_some, if_true, h40, if_false, hd40, spec_l3Letters.f, L, hok, Bool.not_true, spec_RankOfReading.j0, impl_RankOfReading.j0, Bool.false_eq_true, spec_l2Bare.f, B, spec_l3Bare.f, impl_IsBare.f, hm1, hm2, hb', I0]
          exact ⟨trivial, if_neg (by simp)⟩
      · have hok' := (Bool.not_eq_true _).mp hok
        refine ⟨(0, false), fun K hK => ?_⟩
        obtain ⟨k, hk', hkM⟩ : ∃ k, K = k + a1.size + 1 + 1 ∧ 8398000 ≤ k := ⟨K - a1.size - 2, by clear I0 off; omega, by clear I0 off; omega⟩
        clear hK; subst hk'
        have L := sLet_l0 l hl10 a1 (by omega) a1.size (k + a1.size + 1 + 1) 0 (by omega) (by omega) (by omega)
        simp only [List.drop_zero, Int.natCast_zero] at L
        unfold spec_RankOfReading.f impl_RankOfReading.f
        rw [l2Table_eq l h1 h2 _ (by omega), isTable_eq l h1 h2 _ (by omega), ht]
        simp only [Option.bind_some, if_true, h40, if_false, hd40, spec_l3Letters.f, L, hok', Bool.not_false, spec_RankOfReading.j0, impl_RankOfReading.j0, Bool.false_eq_true, I0]
        exact ⟨trivial, if_neg (by simp)⟩
  · refine ⟨(0, false), fun k hk => ?_⟩
    unfold spec_RankOfReading.f impl_RankOfReading.f
    rw [l2Table_eq l h1 h2 k (by omega), isTable_eq l h1 h2 k (by omega), (Bool.not_eq_true _).mp ht]
    simp only [Option.bind_some, Bool.false_eq_true, if_false]
    exact off k (by omega)

end Go.Proofs.YtolfmhkhllfpmaaDoor.Pure
