/- ReadingAt of the program and of the reference answer alike at every table, text and number. -/
import Derived.Test.YtolfmhkhllfpmaaDoorHFnExactReadingAtx6
namespace Go.Proofs.YtolfmhkhllfpmaaDoor.Pure
open Go.RowKit Go.Proofs.YtolfmhkhllfpmaaDoor.HFnExactReadingAt Go.Proofs.YtolfmhkhllfpmaaDoorW.PrintWords Go.Proofs.YtolfmhkhllfpmaaDoorW.PrintLast
set_option linter.unusedVariables false
set_option linter.unusedSimpArgs false
set_option linter.unnecessarySimpa false

theorem wr {i : Int} (h0 : -9223372036854775808 ≤ i) (h1 : i ≤ 9223372036854775807) : wrap64 i = i := by unfold wrap64; omega
theorem rd_nat (xs : List Int) (i : Nat) : rd xs (i : Int) = xs.getD i 0 := by simp [rd]
theorem rd_get (xs : List Int) (i : Nat) (h : i < xs.length) : rd xs (i : Int) = xs[i] := by simp [rd, h]
theorem pred_of_lt {d k : Nat} (h : d < k) : ∃ m, k = m + 1 := ⟨k - 1, by omega⟩
/-! bytes of a text -/
theorem size_data (s : ByteArray) : s.data.toList.length = s.size := Array.length_toList
theorem bt_nat (s : ByteArray) (i : Nat) (h : i < s.size) : bt s (i : Int) = ((s.data.toList[i]'(by rw [size_data]; exact h)).toNat : Int) := by
  have := bt_at s (i : Int) (by simpa using h)
  rw [← this]
  rfl
theorem byte_num (b c : UInt8) (n : Nat) (hc : c.toNat = n) : ((b.toNat : Int) = (n : Int)) ↔ b = c := by
  constructor
  · intro h
    exact UInt8.toNat_inj.1 (by omega)
  · rintro rfl; omega
/-! what is left when bytes of a set are taken off both ends -/
theorem dropWhile_nil {p : UInt8 → Bool} (l : List UInt8) : l.dropWhile p = [] ↔ l.all p = true := by
  induction l with
  | nil => simp
  | cons a l ih =>
    rw [List.dropWhile_cons]
    by_cases h : p a = true
    · rw [if_pos h, ih]; simp [h]
    · rw [if_neg h]; simp [h]
theorem trimS_nil (l cs : List UInt8) : Lib.trimS l cs = [] ↔ l.all (cs.contains ·) = true := by
  unfold Lib.trimS Lib.trimLeftS Lib.trimRightS
  rw [dropWhile_nil]
  constructor
  · intro h
    by_cases hr : (l.reverse.dropWhile (cs.contains ·)) = []
    · rw [dropWhile_nil, List.all_reverse] at hr; exact hr
    · exfalso
      rw [List.all_reverse] at h
      cases hd : l.reverse.dropWhile (cs.contains ·) with
      | nil => exact hr hd
      | cons a t =>
        have ha : cs.contains a = false := by
          have := List.head?_dropWhile_not (cs.contains ·) l.reverse
          rw [hd] at this
          simpa using this
        rw [hd] at h
        simp at h
        rw [List.contains_eq_mem] at ha
        simp [h.1] at ha
  · intro h
    have : (l.reverse.dropWhile (cs.contains ·)) = [] := by
      rw [dropWhile_nil, List.all_reverse]; exact h
    rw [this]; rfl
theorem toList_nil (l : List UInt8) : ((⟨l.toArray⟩ : ByteArray).toList == ([] : List UInt8)) = l.isEmpty := by
  have : (⟨l.toArray⟩ : ByteArray).toList = l := by
    rw [ByteArray.toList_eq]
  rw [this]
  cases l <;> rfl
theorem l1In_eq (a b c : Int) : spec_l1In.f a b c = some (decide (b ≤ a) && decide (a ≤ c)) := by
  unfold spec_l1In.f
  by_cases h : a ≥ b
  · rw [if_pos h]; simp [show b ≤ a from h]
  · rw [if_neg h]; simp [show ¬ b ≤ a from h]
theorem in_eq (a b c : Int) : impl_in.f a b c = some (decide (b ≤ a) && decide (a ≤ c)) := by
  unfold impl_in.f
  by_cases h : a ≥ b
  · rw [if_pos h]; simp [show b ≤ a from h]
  · rw [if_neg h]; simp [show ¬ b ≤ a from h]
/-! lists of texts: their sizes, copies, comparisons -/
theorem rdS_get (xs : List ByteArray) (i : Nat) (h : i < xs.length) : rdOf ByteArray.empty xs (i : Int) = xs[i] := by simp [rdOf, h]
theorem toList_inj (a b : ByteArray) : a.toList = b.toList ↔ a = b := by
  rw [ByteArray.toList_eq, ByteArray.toList_eq]
  constructor
  · intro h; exact ByteArray.ext (Array.toList_inj.1 h)
  · rintro rfl; rfl
theorem szStringS_l0 (l : List ByteArray) (hl : l.length ≤ maxLen) (hs : ∀ s ∈ l, s.size ≤ maxLen) (d : Nat) : ∀ (i : Nat) (left : Int), 0 ≤ left → left ≤ 1048576 → i ≤ l.length → l.length - i = d →
    ∃ t : Int, (∀ k, d < k → laws_szStringS.l0 k l left (i : Int) = some t) ∧ t ≤ left ∧ (0 ≤ t → ∀ j (h : j < l.length), i ≤ j → (l[j].size : Int) ≤ left) := by
  unfold maxLen at hl hs
  induction d with
  | zero =>
    intro i left h0 h1 hi hd
    refine ⟨left, fun k hk => ?_, by omega, fun _ j h hij => by omega⟩
    obtain ⟨k, rfl⟩ := pred_of_lt hk
    simp only [laws_szStringS.l0]; rw [if_neg (by omega)]
  | succ d ih =>
    intro i left h0 h1 hi hd
    have hlt : i < l.length := by omega
    have hsz := hs _ (List.getElem_mem hlt)
    have c1 : (i : Int) < (l.length : Int) := by omega
    have c2 : (0 : Int) ≤ (i : Int) := by omega
    have e1 : wrap64 ((i : Int) + 1) = ((i + 1 : Nat) : Int) := by rw [wr (by omega) (by omega)]; omega
    have e2 : wrap64 (left - (l[i].size : Int)) = left - (l[i].size : Int) := by rw [wr (by omega) (by omega)]
    by_cases hc : left - (l[i].size : Int) < 0
    · refine ⟨-1, fun k hk => ?_, by omega, fun h => by omega⟩
      obtain ⟨k, rfl⟩ := pred_of_lt hk
      simp only [laws_szStringS.l0, c1, c2, if_true, rdS_get l i hlt, e2, hc]
    · obtain ⟨t, ht, h2, h3⟩ := ih (i + 1) (left - (l[i].size : Int)) (by omega) (by omega) (by omega) (by omega)
      refine ⟨t, fun k hk => ?_, by omega, fun h0t j h hij => ?_⟩
      · obtain ⟨k, rfl⟩ := pred_of_lt hk
        simp only [laws_szStringS.l0, c1, c2, if_true, rdS_get l i hlt, e2, hc, if_false, e1]
        exact ht k (by omega)
      · by_cases hji : i = j
        · subst hji; omega
        · have := h3 h0t j h (by omega); omega
theorem szStringS_eq (l : List ByteArray) (hl : l.length ≤ maxLen) (hs : ∀ s ∈ l, s.size ≤ maxLen) : ∃ t : Int, (∀ k, l.length < k → laws_szStringS.f k l 1048576 = some t) ∧ (0 ≤ t → l.length ≤ 1048576 ∧ ∀ s ∈ l, s.size ≤ 1048576) := by
  have hl' := hl
  unfold maxLen at hl'
  have e : wrap64 (1048576 - (l.length : Int)) = 1048576 - (l.length : Int) := by rw [wr (by omega) (by omega)]
  by_cases hc : 1048576 - (l.length : Int) < 0
  · refine ⟨-1, fun k hk => ?_, fun h => by omega⟩
    unfold laws_szStringS.f
    rw [e, if_pos hc]
  · obtain ⟨t, ht, h2, h3⟩ := szStringS_l0 l hl hs l.length 0 (1048576 - (l.length : Int)) (by omega) (by omega) (by omega) (by omega)
    refine ⟨t, fun k hk => ?_, fun h0 => ⟨by omega, fun s hsm => ?_⟩⟩
    · unfold laws_szStringS.f
      rw [e, if_neg hc]
      exact ht k hk
    · obtain ⟨j, hj, rfl⟩ := List.getElem_of_mem hsm
      have := h3 h0 j hj (by omega)
      omega
theorem toStringS_l0 (x0 : List ByteArray) (hx : x0.length ≤ 1048576) (d : Nat) : ∀ (k i : Nat) (x3 : List ByteArray), i ≤ x0.length → x0.length - i = d → d < k → x3.length = x0.length → (∀ j, j < i → x3[j]? = x0[j]?) →
    laws_toStringS.l0 k x0 x3 (i : Int) = some x0 := by
  induction d with
  | zero =>
    intro k i x3 hi hd hk hl ht
    obtain ⟨k, rfl⟩ := pred_of_lt hk
    simp only [laws_toStringS.l0]; rw [if_neg (by omega)]
    refine congrArg some (List.ext_getElem? fun j => ?_)
    by_cases hj : j < i
    · exact ht j hj
    · rw [List.getElem?_eq_none (by omega), List.getElem?_eq_none (by omega)]
  | succ d ih =>
    intro k i x3 hi hd hk hl ht
    obtain ⟨k, rfl⟩ := pred_of_lt hk
    simp only [laws_toStringS.l0]; rw [if_pos (by omega), if_pos (by omega), if_pos (by omega), wr (by omega) (by omega)]
    have e : ((i : Int) + 1) = ((i + 1 : Nat) : Int) := by omega
    rw [e, Int.toNat_natCast, rdS_get x0 i (by omega)]
    refine ih k (i + 1) _ (by omega) (by omega) (by omega) (by simpa using hl) fun j hj => ?_
    rw [List.getElem?_set]
    by_cases hji : i = j
    · subst hji
      simp [show i < x3.length by omega, show i < x0.length by omega]
    · rw [if_neg hji]; exact ht j (by omega)
theorem toStringS_eq (l : List ByteArray) (h : l.length ≤ 1048576) (k : Nat) (hk : l.length < k) : laws_toStringS.f k l = some l := by
  unfold laws_toStringS.f
  rw [if_pos (by omega), if_pos (by omega)]
  exact toStringS_l0 l (by omega) l.length k 0 _ (by omega) (by omega) hk (by simp) (fun j hj => by omega)
theorem eqStringS_l0 (a : List ByteArray) (ha : a.length ≤ 1048576) (d : Nat) : ∀ (k i : Nat), i ≤ a.length → a.length - i = d → d < k → laws_eqStringS.l0 k a a (i : Int) = some true := by
  induction d with
  | zero =>
    intro k i hi hd hk
    obtain ⟨k, rfl⟩ := pred_of_lt hk
    simp only [laws_eqStringS.l0]; rw [if_neg (by omega)]
  | succ d ih =>
    intro k i hi hd hk
    obtain ⟨k, rfl⟩ := pred_of_lt hk
    simp only [laws_eqStringS.l0, if_true]; rw [if_pos (by omega), if_pos (by omega), if_pos (by omega), wr (by omega) (by omega)]
    have e : ((i : Int) + 1) = ((i + 1 : Nat) : Int) := by omega
    rw [e]
    exact ih k (i + 1) (by omega) (by omega) (by omega)
theorem eqStringS_self (a : List ByteArray) (ha : a.length ≤ 1048576) (k : Nat) (hk : a.length < k) : laws_eqStringS.f k a a = some true := by
  unfold laws_eqStringS.f
  rw [if_pos rfl]
  exact eqStringS_l0 a ha a.length k 0 (by omega) (by omega) hk
/-! a table that a law is handed -/
theorem szTable_eq (l : List ByteArray) (hl : l.length ≤ maxLen) (hs : ∀ s ∈ l, s.size ≤ maxLen) : ∃ t : Int, (∀ k, l.length < k → laws_szTable.f k l 1048576 = some t) ∧ (0 ≤ t → l.length ≤ 1048576 ∧ ∀ s ∈ l, s.size ≤ 1048576) := by
  obtain ⟨t, ht, h⟩ := szStringS_eq l hl hs
  by_cases h0 : t < 0
  · refine ⟨-1, fun k hk => ?_, fun h => by omega⟩
    unfold laws_szTable.f
    rw [ht k hk]; simp only [Option.bind_some]; rw [if_pos h0]
  · refine ⟨t, fun k hk => ?_, h⟩
    unfold laws_szTable.f
    rw [ht k hk]; simp only [Option.bind_some]; rw [if_neg h0]
theorem toTable_eq (l : List ByteArray) (h : l.length ≤ 1048576) (k : Nat) (hk : l.length < k) : laws_toTable.f k l = some l := by
  unfold laws_toTable.f; rw [toStringS_eq l h k hk]; rfl
theorem eqTable_self (l : List ByteArray) (h : l.length ≤ 1048576) (k : Nat) (hk : l.length < k) : laws_eqTable.f k l l = some true := by
  unfold laws_eqTable.f; rw [eqStringS_self l h k hk]; rfl
/-! marks, as both sides ask for them -/
def dotDash (b : UInt8) : Bool := b == 46 || b == 45
def isMk (s : ByteArray) (lo hi : Int) : Bool := (decide (lo ≤ (s.size : Int)) && decide ((s.size : Int) ≤ hi)) && s.data.toList.all dotDash
theorem bt_is (s : ByteArray) (i : Nat) (h : i < s.size) (c : UInt8) (n : Int) (hc : (c.toNat : Int) = n) : (bt s (i : Int) = n) ↔ (s.data.toList[i]'(by rw [size_data]; exact h)) = c := by
  rw [bt_nat s i h, ← hc]
  constructor
  · intro e; exact UInt8.toNat_inj.1 (by omega)
  · intro e; rw [e]
theorem l2Marks_l0 (s : ByteArray) (hs : s.size ≤ 1048576) (lo hi : Int) (d : Nat) : ∀ (k i : Nat), i ≤ s.size → s.size - i = d → 2 * d + 1 < k → (s.data.toList.take i).all dotDash = true → spec_l2Marks.l0 k s lo hi (i : Int) = some (isMk s lo hi) := by
  have hsz := size_data s
  induction d with
  | zero =>
    intro k i hi' hd hk ht
    obtain ⟨k, rfl⟩ := pred_of_lt hk
    obtain ⟨k, rfl⟩ : ∃ m, k = m + 1 := ⟨k - 1, by omega⟩
    simp only [spec_l2Marks.l0]; rw [if_neg (by omega)]
    simp only [spec_l2Marks.j1]; rw [if_neg (by simp), l1In_eq]
    rw [List.take_of_length_le (by omega)] at ht
    simp only [Option.bind_some, isMk, ht, Bool.and_true]
  | succ d ih =>
    intro k i hi' hd hk ht
    obtain ⟨k, rfl⟩ := pred_of_lt hk
    obtain ⟨k, rfl⟩ : ∃ m, k = m + 1 := ⟨k - 1, by omega⟩
    have c1 : (i : Int) < (s.size : Int) := by omega
    have c2 : (0 : Int) ≤ (i : Int) := by omega
    have e : wrap64 ((i : Int) + 1) = ((i + 1 : Nat) : Int) := by rw [wr (by omega) (by omega)]; omega
    simp only [spec_l2Marks.l0, c1, if_true, spec_l2Marks.j1]
    by_cases h200 : (i : Int) ≤ hi
    · have hd2 : decide ((i : Int) ≤ hi) = true := by simpa using h200
      simp only [hd2, c2, if_true, e]
      have hlt : i < s.data.toList.length := by omega
      have next : dotDash (s.data.toList[i]) = true → spec_l2Marks.l0 k s lo hi ((i + 1 : Nat) : Int) = some (isMk s lo hi) := fun hb => ih k (i + 1) (by omega) (by omega) (by omega) (by
        rw [List.take_succ_eq_append_getElem hlt, List.all_append, ht]; simp only [List.all_cons, List.all_nil, hb, Bool.and_true])
      by_cases h0 : bt s (i : Int) = 46
      · rw [if_pos h0]
        exact next (by rw [bt_is s i (by omega) 46 46 (by decide)] at h0; rw [h0]; decide)
      · rw [if_neg h0]
        by_cases h1 : bt s (i : Int) = 45
        · rw [if_pos h1]
          exact next (by rw [bt_is s i (by omega) 45 45 (by decide)] at h1; rw [h1]; decide)
        · rw [if_neg h1]
          rw [bt_is s i (by omega) 46 46 (by decide)] at h0
          rw [bt_is s i (by omega) 45 45 (by decide)] at h1
          have hm : s.data.toList[i] ∈ s.data.toList := List.getElem_mem _
          have hf : s.data.toList.all dotDash = false := by
            rw [List.all_eq_false]; exact ⟨_, hm, by simp only [dotDash, Bool.or_eq_true, beq_iff_eq, h0, h1, or_self, not_false_eq_true]⟩
          simp only [isMk, hf, Bool.and_false]
    · have hd2 : decide ((i : Int) ≤ hi) = false := by simpa using h200
      simp only [hd2, Bool.false_eq_true, if_false]
      have hn : decide ((s.size : Int) ≤ hi) = false := by simp; omega
      rw [l1In_eq]
      simp only [Option.bind_some, isMk, hn, Bool.and_false, Bool.false_and]
theorem l2Marks_eq (s : ByteArray) (hs : s.size ≤ 1048576) (lo hi : Int) (k : Nat) (hk : 2 * s.size + 1 < k) : spec_l2Marks.f k s lo hi = some (isMk s lo hi) := by
  unfold spec_l2Marks.f
  exact l2Marks_l0 s hs lo hi s.size k 0 (by omega) (by omega) hk (by simp)
theorem areMarks_eq (s : ByteArray) (hs : s.size ≤ 1048576) (lo hi : Int) : impl_areMarks.f s lo hi = some (isMk s lo hi) := by
  unfold impl_areMarks.f
  rw [in_eq]
  simp only [Option.bind_some]
  by_cases h : (decide (lo ≤ (s.size : Int)) && decide ((s.size : Int) ≤ hi)) = true
  · rw [if_pos h]
    unfold strings_Trim.f
    rw [if_pos (by omega), if_pos (by decide), if_pos (by decide)]
    simp only [Option.bind_some]
    rw [toList_nil]
    have e : (Lib.trimS s.data.toList [46, 45]).isEmpty = s.data.toList.all dotDash := by
      rw [Bool.eq_iff_iff, List.isEmpty_iff, trimS_nil]
      have : (fun x => [46, 45].contains x) = dotDash := by
        funext x
        simp [dotDash, List.contains_eq_mem]
        rfl
      rw [this]
    show some (Lib.trimS s.data.toList [46, 45]).isEmpty = _
    rw [e]
    simp only [isMk, h, Bool.true_and]
  · rw [if_neg h]
    simp only [isMk, (Bool.not_eq_true _).mp h, Bool.false_and]
theorem in_eq' (a b c : Int) : impl_in.f a b c = some (decide (b ≤ a) && decide (a ≤ c)) := in_eq a b c
/-! a table, as both sides ask for it -/
def has (l : List ByteArray) (a : ByteArray) : Bool := l.any fun b => a.toList == b.toList
def goodT : List ByteArray → List ByteArray → Bool
  | _, [] => true
  | seen, a :: t => isMk a 1 5 && (!has seen a && goodT (seen ++ [a]) t)
def isTab (l : List ByteArray) : Bool := (decide (1 ≤ (l.length : Int)) && decide ((l.length : Int) ≤ 10)) && goodT [] l
theorem take_snoc {α : Type} (l : List α) (i : Nat) (h : i < l.length) : l.take (i + 1) = l.take i ++ [l[i]] := List.take_succ_eq_append_getElem h
theorem drop_cons {α : Type} (l : List α) (i : Nat) (h : i < l.length) : l.drop i = l[i] :: l.drop (i + 1) := List.drop_eq_getElem_cons h
theorem has_take (l : List ByteArray) (a : ByteArray) (i : Nat) (h : i < l.length) : has (l.take (i + 1)) a = (has (l.take i) a || (a.toList == l[i].toList)) := by
  unfold has
  rw [take_snoc l i h, List.any_append]; simp only [List.any_cons, List.any_nil, Bool.or_false]
/-- where a text stands in a list first, or -1 -/
def placeN (l : List ByteArray) (a : ByteArray) : Int := match l.findIdx? (fun b => a.toList == b.toList) with
  | some i => (i : Int)
  | none => -1
theorem place_hit (l : List ByteArray) (a : ByteArray) (i : Nat) (hi : i < l.length) (h1 : has (l.take i) a = false) (h2 : a.toList = l[i].toList) : placeN l a = (i : Int) := by
  unfold placeN
  have : l.findIdx? (fun b => a.toList == b.toList) = some i := by
    rw [List.findIdx?_eq_some_iff_getElem]
    refine ⟨hi, by simpa using h2, fun j hj => ?_⟩
    intro hc
    have hm : l[j] ∈ l.take i := by
      rw [List.mem_take_iff_getElem]
      exact ⟨j, by omega, rfl⟩
    have ht : has (l.take i) a = true := List.any_eq_true.2 ⟨_, hm, hc⟩
    rw [h1] at ht; cases ht
  rw [this]
theorem place_none (l : List ByteArray) (a : ByteArray) (h : has l a = false) : placeN l a = -1 := by
  unfold placeN
  have : l.findIdx? (fun b => a.toList == b.toList) = none := by
    rw [List.findIdx?_eq_none_iff]
    intro x hx
    have := List.any_eq_false.1 h x hx
    simpa using this
  rw [this]
theorem l2Place_l0 (l : List ByteArray) (hl : l.length ≤ 1048576) (a : ByteArray) (d : Nat) : ∀ (k i : Nat), i ≤ l.length → l.length - i = d → d < k → has (l.take i) a = false → spec_l2Place.l0 k l a (i : Int) = some (placeN l a) := by
  induction d with
  | zero =>
    intro k i hi hd hk ht
    obtain ⟨k, rfl⟩ := pred_of_lt hk
    simp only [spec_l2Place.l0]; rw [if_neg (by omega)]
    rw [List.take_of_length_le (by omega)] at ht
    rw [place_none l a ht]
  | succ d ih =>
    intro k i hi hd hk ht
    obtain ⟨k, rfl⟩ := pred_of_lt hk
    have hlt : i < l.length := by omega
    simp only [spec_l2Place.l0]; rw [if_pos (by omega), if_pos (by omega), rdS_get l i hlt]
    by_cases hc : l[i].toList = a.toList
    · rw [if_pos hc, place_hit l a i hlt ht hc.symm]
    · rw [if_neg hc, wr (by omega) (by omega)]
      have e : ((i : Int) + 1) = ((i + 1 : Nat) : Int) := by omega
      rw [e]
      refine ih k (i + 1) (by omega) (by omega) (by omega) ?_
      rw [has_take l a i hlt, ht, Bool.false_or, beq_eq_false_iff_ne]
      exact fun e => hc e.symm
theorem l2Place_eq (l : List ByteArray) (hl : l.length ≤ 1048576) (a : ByteArray) (k : Nat) (hk : l.length < k) : spec_l2Place.f k l a = some (placeN l a) := by
  unfold spec_l2Place.f
  exact l2Place_l0 l hl a l.length k 0 (by omega) (by omega) hk (by simp [has])
theorem sIndex_l0 (l : List ByteArray) (hl : l.length ≤ 1048576) (a : ByteArray) (d : Nat) : ∀ (k i : Nat), i ≤ l.length → l.length - i = d → d < k → has (l.take i) a = false → slices_Index_string_string.l0 k l a (l.length : Int) (i : Int) = some (placeN l a) := by
  induction d with
  | zero =>
    intro k i hi hd hk ht
    obtain ⟨k, rfl⟩ := pred_of_lt hk
    simp only [slices_Index_string_string.l0]; rw [if_neg (by omega)]
    rw [List.take_of_length_le (by omega)] at ht
    rw [place_none l a ht]
  | succ d ih =>
    intro k i hi hd hk ht
    obtain ⟨k, rfl⟩ := pred_of_lt hk
    have hlt : i < l.length := by omega
    simp only [slices_Index_string_string.l0]; rw [if_pos (by omega), if_pos (by omega), if_pos (by omega), rdS_get l i hlt]
    by_cases hc : a.toList = l[i].toList
    · rw [if_pos hc, place_hit l a i hlt ht hc]
    · rw [if_neg hc, wr (by omega) (by omega)]
      have e : ((i : Int) + 1) = ((i + 1 : Nat) : Int) := by omega
      rw [e]
      refine ih k (i + 1) (by omega) (by omega) (by omega) ?_
      rw [has_take l a i hlt, ht, Bool.false_or, beq_eq_false_iff_ne]
      exact hc
theorem sIndex_eq (l : List ByteArray) (hl : l.length ≤ 1048576) (a : ByteArray) (k : Nat) (hk : l.length < k) : slices_Index_string_string.f k l a = some (placeN l a) := by
  unfold slices_Index_string_string.f
  exact sIndex_l0 l hl a l.length k 0 (by omega) (by omega) hk (by simp [has])
theorem place_has (l : List ByteArray) (a : ByteArray) : decide (placeN l a ≥ 0) = has l a := by
  by_cases h : has l a = true
  · obtain ⟨x, hx, hb⟩ := List.any_eq_true.1 h
    unfold placeN
    cases hf : l.findIdx? (fun b => a.toList == b.toList) with
    | none =>
      have := List.findIdx?_eq_none_iff.1 hf x hx
      rw [hb] at this; cases this
    | some i => rw [h]; simp
  · rw [place_none l a ((Bool.not_eq_true _).mp h), (Bool.not_eq_true _).mp h]; decide
theorem sContains_eq (l : List ByteArray) (hl : l.length ≤ 1048576) (a : ByteArray) (k : Nat) (hk : l.length < k) : slices_Contains_string_string.f k l a = some (has l a) := by
  unfold slices_Contains_string_string.f
  rw [sIndex_eq l hl a k hk]
  simp only [Option.bind_some]
  rw [place_has]
theorem place_self (l : List ByteArray) (i : Nat) (hi : i < l.length) : (placeN l l[i] = (i : Int)) ↔ has (l.take i) l[i] = false := by
  constructor
  · intro h
    by_cases hc : has (l.take i) l[i] = true
    · exfalso
      obtain ⟨x, hx, hb⟩ := List.any_eq_true.1 hc
      obtain ⟨j, hj, rfl⟩ := List.getElem_of_mem hx
      rw [List.length_take] at hj
      unfold placeN at h
      cases hf : l.findIdx? (fun b => l[i].toList == b.toList) with
      | none => rw [hf] at h; simp at h
      | some m =>
        rw [hf] at h
        have hm : m = i := by
          have h' : (m : Int) = (i : Int) := h
          omega
        subst hm
        have := (List.findIdx?_eq_some_iff_getElem.1 hf).2.2 j (by omega)
        rw [List.getElem_take] at hb
        exact this hb
    · exact (Bool.not_eq_true _).mp hc
  · intro h
    exact place_hit l l[i] i hi h rfl
theorem l2Table_l0 (l : List ByteArray) (hl : l.length ≤ 1048576) (hs : ∀ s ∈ l, s.size ≤ 1048576) (M : Nat) (hM : l.length + 2097160 ≤ M) (d : Nat) : ∀ (k i : Nat), i ≤ l.length → l.length - i = d → M + d < k → spec_l2Table.l0 k (i : Int) l = some (goodT (l.take i) (l.drop i)) := by
  induction d with
  | zero =>
    intro k i hi hd hk
    obtain ⟨k, rfl⟩ := pred_of_lt hk
    simp only [spec_l2Table.l0]; rw [if_neg (by omega), List.drop_eq_nil_of_le (by omega)]
    simp [goodT]
  | succ d ih =>
    intro k i hi hd hk
    obtain ⟨k, rfl⟩ := pred_of_lt hk
    have hlt : i < l.length := by omega
    have hz := hs _ (List.getElem_mem hlt)
    rw [drop_cons l i hlt]
    simp only [spec_l2Table.l0]; rw [if_pos (by omega), if_pos (by omega), rdS_get l i hlt, l2Marks_eq _ hz 1 5 k (by omega), l2Place_eq l hl _ k (by omega)]
    simp only [Option.bind_some, goodT]
    by_cases h1 : isMk l[i] 1 5 = true
    · rw [if_pos h1, h1, Bool.true_and]
      by_cases h2 : placeN l l[i] = (i : Int)
      · rw [if_pos h2, (place_self l i hlt).1 h2, wr (by omega) (by omega)]
        have e : ((i : Int) + 1) = ((i + 1 : Nat) : Int) := by omega
        rw [e, ih k (i + 1) (by omega) (by omega) (by omega), take_snoc l i hlt]
        simp
      · rw [if_neg h2]
        have : has (l.take i) l[i] = true := by
          by_cases hc : has (l.take i) l[i] = true
          · exact hc
          · exact absurd ((place_self l i hlt).2 ((Bool.not_eq_true _).mp hc)) h2
        rw [this]; simp
    · rw [if_neg h1, (Bool.not_eq_true _).mp h1]; simp
theorem l2Table_eq (l : List ByteArray) (hl : l.length ≤ 1048576) (hs : ∀ s ∈ l, s.size ≤ 1048576) (k : Nat) (hk : 4194400 ≤ k) : spec_l2Table.f k l = some (isTab l) := by
  unfold spec_l2Table.f
  rw [l1In_eq]
  simp only [Option.bind_some]
  by_cases h : (decide (1 ≤ (l.length : Int)) && decide ((l.length : Int) ≤ 10)) = true
  · rw [if_pos h]
    have h10 : l.length ≤ 10 := by simp only [Bool.and_eq_true, decide_eq_true_eq] at h; omega
    have := l2Table_l0 l hl hs (l.length + 2097160) (by omega) l.length k 0 (by omega) (by omega) (by omega)
    rw [List.take_zero, List.drop_zero] at this
    simp only [isTab, h, Bool.true_and]
    exact this
  · rw [if_neg h]; simp only [isTab, (Bool.not_eq_true _).mp h, Bool.false_and]
theorem isLetterMarks_eq (s : ByteArray) (hs : s.size ≤ 1048576) : impl_isLetterMarks.f s = some (isMk s 1 5) := by
  unfold impl_isLetterMarks.f
  rw [areMarks_eq s hs]; rfl
theorem isTable_l0 (l : List ByteArray) (hl : l.length ≤ 1048576) (hs : ∀ s ∈ l, s.size ≤ 1048576) (d : Nat) : ∀ (k i : Nat), i ≤ l.length → l.length - i = d → l.length + d < k →
    impl_isTable.l0 k l (l.length : Int) (i : Int) l = some (goodT (l.take i) (l.drop i) && (decide (1 ≤ (l.length : Int)) && decide ((l.length : Int) ≤ 10))) := by
  induction d with
  | zero =>
    intro k i hi hd hk
    obtain ⟨k, rfl⟩ := pred_of_lt hk
    simp only [impl_isTable.l0]; rw [if_neg (by omega), List.drop_eq_nil_of_le (by omega), in_eq]
    simp [goodT]
  | succ d ih =>
    intro k i hi hd hk
    obtain ⟨k, rfl⟩ := pred_of_lt hk
    have hlt : i < l.length := by omega
    have hz := hs _ (List.getElem_mem hlt)
    have c1 : (i : Int) ≤ (l.length : Int) := by omega
    rw [drop_cons l i hlt]
    simp only [impl_isTable.l0]; rw [if_pos (by omega), if_pos (by omega), if_pos (by omega), rdS_get l i hlt, isLetterMarks_eq _ hz]
    simp only [Option.bind_some, goodT]
    by_cases h1 : isMk l[i] 1 5 = true
    · rw [if_pos h1, h1, Bool.true_and, if_pos c1, Int.toNat_natCast, sContains_eq _ (by rw [List.length_take]; omega) _ k (by rw [List.length_take]; omega)]
      simp only [Option.bind_some]
      by_cases h2 : has (l.take i) l[i] = true
      · rw [if_pos h2, h2]; simp
      · rw [if_neg h2, (Bool.not_eq_true _).mp h2, wr (by omega) (by omega)]
        have e : ((i : Int) + 1) = ((i + 1 : Nat) : Int) := by omega
        rw [e, ih k (i + 1) (by omega) (by omega) (by omega), take_snoc l i hlt]
        simp
    · rw [if_neg h1, (Bool.not_eq_true _).mp h1]; simp
theorem isTable_eq (l : List ByteArray) (hl : l.length ≤ 1048576) (hs : ∀ s ∈ l, s.size ≤ 1048576) (k : Nat) (hk : 4194400 ≤ k) : impl_isTable.f k l = some (isTab l) := by
  unfold impl_isTable.f
  have := isTable_l0 l hl hs l.length k 0 (by omega) (by omega) (by omega)
  rw [List.take_zero, List.drop_zero] at this
  rw [show isTab l = (goodT [] l && (decide (1 ≤ (l.length : Int)) && decide ((l.length : Int) ≤ 10))) from Bool.and_comm _ _]
  exact this
/-! in how many ways marks fall into letters, counted alike by both sides (in 64 bits) -/
def fits (s c : ByteArray) (i : Nat) : Bool := decide (i + c.size ≤ s.size) && (s.extract i (i + c.size)).toList == c.toList
theorem stands_eq (s c : ByteArray) (i : Nat) (hs : s.size ≤ 1048576) (hc : c.size ≤ 1048576) (hi : i ≤ s.size) : spec_l3Stands.f s c (i : Int) = some (fits s c i) := by
  have e : wrap64 ((i : Int) + (c.size : Int)) = ((i + c.size : Nat) : Int) := by rw [wr (by omega) (by omega)]; omega
  simp only [spec_l3Stands.f, e, fits]
  by_cases h : i + c.size ≤ s.size
  · rw [if_pos (by omega), if_pos (by omega), if_pos (by omega)]
    simp only [h, decide_true, Bool.true_and, Int.toNat_natCast]
  · rw [if_neg (by omega)]
    simp only [h, decide_false, Bool.false_and]
theorem hasPrefix_eq (s c : ByteArray) (i : Nat) (hs : s.size ≤ 1048576) (hc : c.size ≤ 1048576) (hi : i ≤ s.size) : strings_HasPrefix.f (s.extract i s.size) c = some (fits s c i) := by
  have hz : (s.extract i s.size).size = s.size - i := by rw [ByteArray.size_extract, Nat.min_self]
  have e : (s.extract i s.size).extract 0 c.size = s.extract i (min (i + c.size) s.size) := by
    rw [ByteArray.extract_extract, Nat.add_zero]
  simp only [strings_HasPrefix.f, stringslite_HasPrefix.f, hz, fits, Int.toNat_natCast]
  by_cases h : i + c.size ≤ s.size
  · rw [if_pos (by omega), if_pos (by omega), if_pos (by omega), e, Nat.min_eq_left h]
    simp only [h, decide_true, Bool.true_and, Option.bind_some]
  · rw [if_neg (by omega)]
    simp only [h, decide_false, Bool.false_and, Option.bind_some]
def wput (s : ByteArray) (i : Nat) (c : ByteArray) (x : List Int) : List Int := if fits s c i = true then x.set i (wrap64 (rd x (i : Int) + rd x ((i + c.size : Nat) : Int))) else x
def wstep (s : ByteArray) (i : Nat) (l : List ByteArray) (x : List Int) : List Int := l.foldl (fun x c => wput s i c x) x
def wall (s : ByteArray) (l : List ByteArray) : Nat → List Int → List Int
  | 0, x => x
  | i + 1, x => wall s l i (wstep s i l x)
theorem wput_len (s : ByteArray) (i : Nat) (c : ByteArray) (x : List Int) : (wput s i c x).length = x.length := by unfold wput; split <;> simp
theorem wstep_len (s : ByteArray) (i : Nat) (l : List ByteArray) : ∀ x, (wstep s i l x).length = x.length := by
  unfold wstep
  induction l with
  | nil => intro x; rfl
  | cons c l ih => intro x; rw [List.foldl_cons, ih, wput_len]
theorem wall_len (s : ByteArray) (l : List ByteArray) : ∀ i x, (wall s l i x).length = x.length
  | 0, x => rfl
  | i + 1, x => by rw [wall, wall_len s l i, wstep_len]
theorem wstep_drop (s : ByteArray) (i : Nat) (l : List ByteArray) (j : Nat) (h : j < l.length) (x : List Int) : wstep s i (l.drop j) x = wstep s i (l.drop (j + 1)) (wput s i l[j] x) := by
  rw [drop_cons l j h]; rfl
theorem sWays_l1 (s : ByteArray) (hs : s.size ≤ 1048576) (l : List ByteArray) (hl : l.length ≤ 1048576) (hc : ∀ c ∈ l, c.size ≤ 1048576) (i : Nat) (hi : i < s.size) (k d : Nat) : ∀ (m j : Nat) (x : List Int), m = k + d + 1 → j ≤ l.length → l.length - j = d → x.length = s.size + 1 →
    spec_l3Ways.l1 m s x (i : Int) (j : Int) l = spec_l3Ways.l0 k s (wstep s i (l.drop j) x) ((i : Int) - 1) l := by
  induction d with
  | zero =>
    intro m j x hm hj hd hx
    subst hm
    simp only [spec_l3Ways.l1, Nat.add_zero]; rw [if_neg (by omega), wr (by omega) (by omega), show j = l.length by omega, List.drop_length]; rfl
  | succ d ih =>
    intro m j x hm hj hd hx
    obtain ⟨m, rfl⟩ : ∃ m', m = m' + 1 := ⟨k + d + 1, by omega⟩
    have hlt : j < l.length := by omega
    obtain ⟨c, hcj, hget, hdrop⟩ : ∃ c : ByteArray, c.size ≤ 1048576 ∧ rdOf ByteArray.empty l (j : Int) = c ∧ wstep s i (l.drop j) x = wstep s i (l.drop (j + 1)) (wput s i c x) := ⟨l[j], hc _ (List.getElem_mem hlt), rdS_get l j hlt, wstep_drop s i l j hlt x⟩
    have n := ih m (j + 1) (wput s i c x) (Nat.succ.inj hm) hlt (by rw [Nat.sub_add_eq, hd]; rfl) ((wput_len s i c x).trans hx)
    have c1 : (j : Int) < (l.length : Int) := by omega
    have c2 : (0 : Int) ≤ (j : Int) := by omega
    have c3 : (0 : Int) ≤ (i : Int) := by omega
    have c4 : (i : Int) < (x.length : Int) := by omega
    have hi' : i ≤ s.size := by omega
    have e1 : wrap64 ((j : Int) + 1) = ((j + 1 : Nat) : Int) := by rw [wr (by omega) (by omega)]; omega
    have e2 : wrap64 ((i : Int) + (c.size : Int)) = ((i + c.size : Nat) : Int) := by clear e1; rw [wr (by omega) (by omega)]; omega
    rw [hdrop]
    simp only [spec_l3Ways.l1, c1, c2, c3, c4, if_true, hget, stands_eq s c i hs hcj hi', Option.bind_some, e1, e2]
    clear e1 e2
    by_cases hf : fits s c i = true
    · have hle : i + c.size ≤ s.size := by
        simp only [fits, Bool.and_eq_true, decide_eq_true_eq] at hf; exact hf.1
      rw [if_pos hf, if_pos (by omega), if_pos (by omega), ← n]
      unfold wput
      rw [if_pos hf, Int.toNat_natCast]
    · rw [if_neg hf, ← n]
      unfold wput
      rw [if_neg hf]
theorem iWays_l1 (s : ByteArray) (hs : s.size ≤ 1048576) (l : List ByteArray) (hl : l.length ≤ 1048576) (hc : ∀ c ∈ l, c.size ≤ 1048576) (i : Nat) (hi : i < s.size) (k d : Nat) : ∀ (m j : Nat) (x : List Int), m = k + d + 1 → j ≤ l.length → l.length - j = d → x.length = s.size + 1 →
    impl_ways.l1 m s x (i : Int) l (l.length : Int) (j : Int) l = impl_ways.l0 k s (wstep s i (l.drop j) x) ((i : Int) - 1) l := by
  induction d with
  | zero =>
    intro m j x hm hj hd hx
    subst hm
    simp only [impl_ways.l1, Nat.add_zero]; rw [if_neg (by omega), wr (by omega) (by omega), show j = l.length by omega, List.drop_length]; rfl
  | succ d ih =>
    intro m j x hm hj hd hx
    obtain ⟨m, rfl⟩ : ∃ m', m = m' + 1 := ⟨k + d + 1, by omega⟩
    have hlt : j < l.length := by omega
    obtain ⟨c, hcj, hget, hdrop⟩ : ∃ c : ByteArray, c.size ≤ 1048576 ∧ rdOf ByteArray.empty l (j : Int) = c ∧ wstep s i (l.drop j) x = wstep s i (l.drop (j + 1)) (wput s i c x) := ⟨l[j], hc _ (List.getElem_mem hlt), rdS_get l j hlt, wstep_drop s i l j hlt x⟩
    have n := ih m (j + 1) (wput s i c x) (Nat.succ.inj hm) hlt (by rw [Nat.sub_add_eq, hd]; rfl) ((wput_len s i c x).trans hx)
    have c1 : (j : Int) < (l.length : Int) := by omega
    have c2 : (0 : Int) ≤ (j : Int) := by omega
    have c3 : (0 : Int) ≤ (i : Int) := by omega
    have c4 : (i : Int) < (x.length : Int) := by omega
    have c5 : (i : Int) ≤ (s.size : Int) := by omega
    have hi' : i ≤ s.size := by omega
    have e1 : wrap64 ((j : Int) + 1) = ((j + 1 : Nat) : Int) := by rw [wr (by omega) (by omega)]; omega
    have e2 : wrap64 ((i : Int) + (c.size : Int)) = ((i + c.size : Nat) : Int) := by clear e1; rw [wr (by omega) (by omega)]; omega
    rw [hdrop]
    simp only [impl_ways.l1, c1, c2, c3, c4, c5, if_true, hget, Int.toNat_natCast, hasPrefix_eq s c i hs hcj hi', Option.bind_some, e1, e2]
    clear e1 e2
    by_cases hf : fits s c i = true
    · have hle : i + c.size ≤ s.size := by
        simp only [fits, Bool.and_eq_true, decide_eq_true_eq] at hf; exact hf.1
      rw [if_pos hf, if_pos (by omega), if_pos (by omega), ← n]
      unfold wput
      rw [if_pos hf]
    · rw [if_neg hf, ← n]
      unfold wput
      rw [if_neg hf]
theorem ways_fuel (L k i : Nat) : k + (i + 1) * (L + 2) + 1 = (k + i * (L + 2) + 1) + L + 1 + 1 := by rw [Nat.succ_mul]; omega
theorem sWays_l0 (s : ByteArray) (hs : s.size ≤ 1048576) (l : List ByteArray) (hl : l.length ≤ 1048576) (hc : ∀ c ∈ l, c.size ≤ 1048576) (k : Nat) : ∀ (i : Nat) (x : List Int), i ≤ s.size → x.length = s.size + 1 →
    spec_l3Ways.l0 (k + i * (l.length + 2) + 1) s x ((i : Int) - 1) l = some (wall s l i x)
  | 0, x, hi, hx => by
    simp only [spec_l3Ways.l0]; rw [if_neg (by omega)]; rfl
  | i + 1, x, hi, hx => by
    have ih := sWays_l0 s hs l hl hc k i (wstep s i l x) (by omega) (by rw [wstep_len]; exact hx)
    have st := sWays_l1 s hs l hl hc i (by omega) (k + i * (l.length + 2) + 1) l.length _ 0 x rfl (by omega) (by omega) hx
    rw [List.drop_zero, ih, Int.natCast_zero] at st
    rw [ways_fuel, show ((i + 1 : Nat) : Int) - 1 = (i : Int) by omega]
    simp only [spec_l3Ways.l0]; rw [if_pos (by omega), st]; rfl
theorem iWays_l0 (s : ByteArray) (hs : s.size ≤ 1048576) (l : List ByteArray) (hl : l.length ≤ 1048576) (hc : ∀ c ∈ l, c.size ≤ 1048576) (k : Nat) : ∀ (i : Nat) (x : List Int), i ≤ s.size → x.length = s.size + 1 →
    impl_ways.l0 (k + i * (l.length + 2) + 1) s x ((i : Int) - 1) l = some (wall s l i x)
  | 0, x, hi, hx => by
    simp only [impl_ways.l0]; rw [if_neg (by omega)]; rfl
  | i + 1, x, hi, hx => by
    have ih := iWays_l0 s hs l hl hc k i (wstep s i l x) (by omega) (by rw [wstep_len]; exact hx)
    have st := iWays_l1 s hs l hl hc i (by omega) (k + i * (l.length + 2) + 1) l.length _ 0 x rfl (by omega) (by omega) hx
    rw [List.drop_zero, ih, Int.natCast_zero] at st
    rw [ways_fuel, show ((i + 1 : Nat) : Int) - 1 = (i : Int) by omega]
    simp only [impl_ways.l0]; rw [if_pos (by omega), st]; rfl
def waysL (l : List ByteArray) (s : ByteArray) : List Int := wall s l s.size ((List.replicate (s.size + 1) (0 : Int)).set s.size 1)
theorem waysL_len (l : List ByteArray) (s : ByteArray) : (waysL l s).length = s.size + 1 := by rw [waysL, wall_len]; simp
def wfuel (l : List ByteArray) (s : ByteArray) : Nat := s.size * (l.length + 2) + 1
theorem l3Ways_eq (l : List ByteArray) (hl : l.length ≤ 1048576) (hc : ∀ c ∈ l, c.size ≤ 1048576) (s : ByteArray) (hs : s.size ≤ 1048576) (k : Nat) (hk : wfuel l s ≤ k) : spec_l3Ways.f k l s = some (waysL l s) := by
  obtain ⟨m, rfl⟩ : ∃ m, k = m + s.size * (l.length + 2) + 1 := ⟨k - wfuel l s, by unfold wfuel at *; omega⟩
  have e : wrap64 ((s.size : Int) + 1) = ((s.size + 1 : Nat) : Int) := by rw [wr (by omega) (by omega)]; omega
  have e2 : wrap64 ((s.size : Int) - 1) = (s.size : Int) - 1 := by clear e; rw [wr (by omega) (by omega)]
  simp only [spec_l3Ways.f, e, e2, Int.toNat_natCast, Option.bind_some, List.length_replicate]
  clear e e2
  rw [if_pos (by omega), if_pos (by omega), if_pos (by omega), if_pos (by omega)]
  exact sWays_l0 s hs l hl hc m s.size _ (Nat.le_refl _) (by simp)
theorem iWays_eq (l : List ByteArray) (hl : l.length ≤ 1048576) (hc : ∀ c ∈ l, c.size ≤ 1048576) (s : ByteArray) (hs : s.size ≤ 1048576) (k : Nat) (hk : wfuel l s ≤ k) : impl_ways.f k l s = some (waysL l s) := by
  obtain ⟨m, rfl⟩ : ∃ m, k = m + s.size * (l.length + 2) + 1 := ⟨k - wfuel l s, by unfold wfuel at *; omega⟩
  have e : wrap64 ((s.size : Int) + 1) = ((s.size + 1 : Nat) : Int) := by rw [wr (by omega) (by omega)]; omega
  have e2 : wrap64 ((s.size : Int) - 1) = (s.size : Int) - 1 := by clear e; rw [wr (by omega) (by omega)]
  simp only [impl_ways.f, e, e2, Int.toNat_natCast, Option.bind_some, List.length_replicate]
  clear e e2
  rw [if_pos (by omega), if_pos (by omega), if_pos (by omega), if_pos (by omega)]
  exact iWays_l0 s hs l hl hc m s.size _ (Nat.le_refl _) (by simp)
def isRd (l : List ByteArray) (s : ByteArray) : Bool := isTab l && isMk s 0 40
theorem l3Good_eq (l : List ByteArray) (hl : l.length ≤ 1048576) (hc : ∀ c ∈ l, c.size ≤ 1048576) (s : ByteArray) (hs : s.size ≤ 1048576) (k : Nat) (hk : 4194400 ≤ k) : spec_l3Good.f k l s = some (isRd l s) := by
  unfold spec_l3Good.f spec_l3Bare.f isRd
  rw [l2Table_eq l hl hc k hk, l2Marks_eq s hs 0 40 k (by omega)]
  cases isTab l <;> rfl
theorem isRead_eq (l : List ByteArray) (hl : l.length ≤ 1048576) (hc : ∀ c ∈ l, c.size ≤ 1048576) (s : ByteArray) (hs : s.size ≤ 1048576) (k : Nat) (hk : 4194400 ≤ k) : impl_isRead.f k l s = some (isRd l s) := by
  unfold impl_isRead.f impl_IsBare.f isRd
  rw [isTable_eq l hl hc k hk, areMarks_eq s hs 0 40]
  cases isTab l <;> rfl
/-! powers of two at places that are all different: their sum is less than the next power -/
theorem pow_sum : ∀ (m : Nat) (L : List Nat), L.Nodup → (∀ x ∈ L, x < m) → (L.map (2 ^ ·)).sum < 2 ^ m := by
  intro m
  induction m with
  | zero =>
    intro L _ h
    cases L with
    | nil => simp
    | cons x L => exact absurd (h x (by simp)) (by omega)
  | succ m ih =>
    intro L hn h
    by_cases hm : m ∈ L
    · have hp := (List.perm_cons_erase hm)
      have hs : (L.map (2 ^ ·)).sum = 2 ^ m + ((L.erase m).map (2 ^ ·)).sum := by
        have := (hp.map (2 ^ ·)).sum_nat
        rw [this]; simp
      have hn2 : (L.erase m).Nodup := hn.erase m
      have := ih (L.erase m) hn2 fun x hx => by
        have h1 := h x (List.mem_of_mem_erase hx)
        have h2 : x ≠ m := fun e => by
          subst e
          exact absurd hx (by rw [hn.mem_erase_iff]; simp)
        omega
      rw [hs, Nat.pow_succ]; omega
    · have := ih L hn fun x hx => by
        have h1 := h x hx
        have h2 : x ≠ m := fun e => hm (e ▸ hx)
        omega
      rw [Nat.pow_succ]; omega
/-! the counts of readings are sums over the letters that stand at a place, and stay small -/
def gain (s : ByteArray) (i : Nat) (x : List Int) (c : ByteArray) : Int := if fits s c i = true then rd x ((i + c.size : Nat) : Int) else 0
def gains (s : ByteArray) (i : Nat) (x : List Int) : List ByteArray → Int
  | [] => 0
  | c :: l => gain s i x c + gains s i x l
theorem rd_set (x : List Int) (i j : Nat) (v : Int) : rd (x.set i v) (j : Int) = if i = j ∧ j < x.length then v else rd x (j : Int) := by
  rw [rd_nat, rd_nat, List.getD_eq_getElem?_getD, List.getD_eq_getElem?_getD, List.getElem?_set]
  by_cases h : i = j
  · subst h
    by_cases h2 : i < x.length
    · simp [h2]
    · simp [h2]
  · simp [h]
theorem gain_set (s : ByteArray) (i j : Nat) (x : List Int) (v : Int) (c : ByteArray) (hc : 1 ≤ c.size) (hij : i ≤ j) : gain s j (x.set i v) c = gain s j x c := by
  unfold gain
  split
  · rw [rd_set, if_neg (by omega)]
  · rfl
theorem gains_set (s : ByteArray) (i j : Nat) (x : List Int) (v : Int) (hij : i ≤ j) : ∀ (l : List ByteArray), (∀ c ∈ l, 1 ≤ c.size) → gains s j (x.set i v) l = gains s j x l
  | [], _ => rfl
  | c :: l, h => by
    simp only [gains]
    rw [gain_set s i j x v c (h c (by simp)) hij, gains_set s i j x v hij l (fun c hc => h c (by simp [hc]))]
theorem gains_nonneg (s : ByteArray) (i : Nat) (x : List Int) (hx : ∀ j, i < j → 0 ≤ rd x (j : Int)) : ∀ (l : List ByteArray), (∀ c ∈ l, 1 ≤ c.size) → 0 ≤ gains s i x l
  | [], _ => by simp [gains]
  | c :: l, h => by
    have h1 := gains_nonneg s i x hx l (fun c hc => h c (by simp [hc]))
    have h2 : 0 ≤ gain s i x c := by
      unfold gain
      split
      · exact hx _ (by have := h c (by simp); omega)
      · omega
    simp only [gains]; omega
theorem wstep_sum (s : ByteArray) (i : Nat) : ∀ (l : List ByteArray) (x : List Int), (∀ c ∈ l, 1 ≤ c.size) → i < x.length → (∀ j, i ≤ j → 0 ≤ rd x (j : Int)) → rd x (i : Int) + gains s i x l ≤ 4611686018427387904 →
    wstep s i l x = x.set i (rd x (i : Int) + gains s i x l)
  | [], x, _, hi, _, _ => by
    simp only [wstep, List.foldl_nil, gains, Int.add_zero]
    rw [rd_nat, List.getD_eq_getElem?_getD, List.getElem?_eq_getElem hi]
    simp
  | c :: l, x, hc, hi, h0, hb => by
    have hc1 := hc c (by simp)
    have hcl : ∀ c ∈ l, 1 ≤ c.size := fun c h => hc c (by simp [h])
    have hn := gains_nonneg s i x (fun j hj => h0 j (by omega)) l hcl
    have e : wput s i c x = x.set i (rd x (i : Int) + gain s i x c) := by
      unfold wput
      by_cases hf : fits s c i = true
      · rw [if_pos hf]
        have hg : gain s i x c = rd x ((i + c.size : Nat) : Int) := by unfold gain; rw [if_pos hf]
        simp only [gains, hg] at hb
        have p1 := h0 i (Nat.le_refl _)
        have p2 := h0 (i + c.size) (by omega)
        rw [hg, wr (by omega) (by omega)]
      · rw [if_neg hf]
        have hg : gain s i x c = 0 := by unfold gain; rw [if_neg hf]
        rw [hg, Int.add_zero, rd_nat, List.getD_eq_getElem?_getD, List.getElem?_eq_getElem hi]
        simp
    have hgn : 0 ≤ gain s i x c := by
      unfold gain
      split
      · exact h0 _ (by omega)
      · omega
    show wstep s i l (wput s i c x) = _
    have es : rd (x.set i (rd x (i : Int) + gain s i x c)) (i : Int) = rd x (i : Int) + gain s i x c := by rw [rd_set, if_pos ⟨rfl, hi⟩]
    rw [e, wstep_sum s i l _ hcl (by simpa using hi) (fun j hj => by
      rw [rd_set]
      split
      · have := h0 i (Nat.le_refl _); omega
      · exact h0 j hj) (by
      rw [es, gains_set s i i x _ (Nat.le_refl _) l hcl]
      simp only [gains] at hb; omega)]
    rw [es, gains_set s i i x _ (Nat.le_refl _) l hcl, List.set_set]
    simp only [gains]
    rw [Int.add_assoc]
/-- no two letters of a table that stand at one place are equally long -/
theorem goodT_mem : ∀ (l seen : List ByteArray), goodT seen l = true → (∀ c ∈ l, 1 ≤ c.size ∧ c.size ≤ 5 ∧ ∀ b ∈ seen, c ≠ b) ∧ l.Nodup
  | [], _, _ => ⟨fun c h => absurd h (by simp), List.nodup_nil⟩
  | a :: t, seen, h => by
    simp only [goodT, Bool.and_eq_true, Bool.not_eq_true'] at h
    obtain ⟨h1, h2, h3⟩ := h
    obtain ⟨i1, i2⟩ := goodT_mem t (seen ++ [a]) h3
    refine ⟨fun c hc => ?_, ?_⟩
    · rcases List.mem_cons.1 hc with rfl | hc
      · simp only [isMk, Bool.and_eq_true, decide_eq_true_eq] at h1
        refine ⟨by omega, by omega, fun b hb e => ?_⟩
        have := List.any_eq_false.1 h2 b hb
        rw [e] at this; simp at this
      · obtain ⟨a1, a2, a3⟩ := i1 c hc
        exact ⟨a1, a2, fun b hb => a3 b (by simp [hb])⟩
    · rw [List.nodup_cons]
      exact ⟨fun hm => (i1 a hm).2.2 a (by simp) rfl, i2⟩
theorem fits_eq (s a b : ByteArray) (i : Nat) (ha : fits s a i = true) (hb : fits s b i = true) (h : a.size = b.size) : a = b := by
  simp only [fits, Bool.and_eq_true, beq_iff_eq] at ha hb
  rw [h] at ha
  exact (toList_inj a b).1 (ha.2.symm.trans hb.2)
theorem fits_le (s c : ByteArray) (i : Nat) (h : fits s c i = true) : i + c.size ≤ s.size := by
  simp only [fits, Bool.and_eq_true, decide_eq_true_eq] at h
  exact h.1
theorem gains_pow (s : ByteArray) (i : Nat) (x : List Int) (hx : ∀ j, i < j → j ≤ s.size → rd x (j : Int) ≤ ((2 ^ (s.size - j) : Nat) : Int)) : ∀ (l : List ByteArray), (∀ c ∈ l, 1 ≤ c.size) →
    gains s i x l ≤ ((((l.filter fun c => fits s c i).map fun c => s.size - i - c.size).map (2 ^ ·)).sum : Nat)
  | [], _ => by simp [gains]
  | c :: l, h => by
    have ih := gains_pow s i x hx l (fun c hc => h c (by simp [hc]))
    by_cases hf : fits s c i = true
    · have h1 := hx (i + c.size) (by have := h c (by simp); omega) (fits_le s c i hf)
      have e : s.size - (i + c.size) = s.size - i - c.size := by omega
      rw [e] at h1
      rw [List.filter_cons_of_pos (p := fun c => fits s c i) hf]
      simp only [List.map_cons, List.sum_cons, gains, gain, if_pos hf]
      omega
    · rw [List.filter_cons_of_neg (p := fun c => fits s c i) hf]
      simp only [gains, gain, if_neg hf]
      omega
theorem gains_small (s : ByteArray) (i : Nat) (hi : i ≤ s.size) (x : List Int) (l : List ByteArray) (hl : ∀ c ∈ l, 1 ≤ c.size) (hn : l.Nodup) (hx : ∀ j, i < j → j ≤ s.size → rd x (j : Int) ≤ ((2 ^ (s.size - j) : Nat) : Int)) : gains s i x l ≤ ((2 ^ (s.size - i) : Nat) : Int) := by
  have h1 := gains_pow s i x hx l hl
  have h2 := pow_sum (s.size - i) ((l.filter fun c => fits s c i).map fun c => s.size - i - c.size) (by
    refine List.pairwise_map.2 ((List.Pairwise.imp_of_mem ?_ (hn.filter _)))
    intro a b ha hb hab e
    simp only [List.mem_filter] at ha hb
    have la := fits_le s a i ha.2
    have lb := fits_le s b i hb.2
    exact hab (fits_eq s a b i ha.2 hb.2 (by omega))) (by
    intro y hy
    obtain ⟨c, hc, rfl⟩ := List.mem_map.1 hy
    simp only [List.mem_filter] at hc
    have := hl c hc.1
    have := fits_le s c i hc.2
    omega)
  omega
structure WInv (l : List ByteArray) (s : ByteArray) (i : Nat) (x : List Int) : Prop where
  len : x.length = s.size + 1
  bnd : ∀ j, i ≤ j → j ≤ s.size → 0 ≤ rd x (j : Int) ∧ rd x (j : Int) ≤ ((2 ^ (s.size - j) : Nat) : Int)
  zero : ∀ j, j < i → rd x (j : Int) = 0
  sum : ∀ j, i ≤ j → j < s.size → rd x (j : Int) = gains s j x l
  last : rd x (s.size : Int) = 1
theorem wall_inv (l : List ByteArray) (s : ByteArray) (hs : s.size ≤ 60) (hl : ∀ c ∈ l, 1 ≤ c.size) (hn : l.Nodup) : ∀ (i : Nat) (x : List Int), i ≤ s.size → WInv l s i x → WInv l s 0 (wall s l i x)
  | 0, x, _, h => h
  | i + 1, x, hi, h => by
    refine wall_inv l s hs hl hn i (wstep s i l x) (by omega) ?_
    have z : rd x (i : Int) = 0 := h.zero i (by omega)
    have beyond : ∀ j, s.size < j → rd x (j : Int) = 0 := fun j hj => by
      rw [rd_nat, List.getD_eq_getElem?_getD, List.getElem?_eq_none (by rw [h.len]; omega)]; rfl
    have nn : ∀ j, i ≤ j → 0 ≤ rd x (j : Int) := fun j hj => by
      by_cases e : j = i
      · subst e; omega
      · by_cases hj2 : j ≤ s.size
        · exact (h.bnd j (by omega) hj2).1
        · rw [beyond j (by omega)]; omega
    have hg := gains_nonneg s i x (fun j hj => nn j (by omega)) l hl
    have hsm := gains_small s i (by omega) x l hl hn (fun j h1 h2 => (h.bnd j (by omega) h2).2)
    have hp : 2 ^ (s.size - i) ≤ 2 ^ 60 := Nat.pow_le_pow_right (by omega) (by omega)
    have e := wstep_sum s i l x hl (by rw [h.len]; omega) nn (by rw [z]; omega)
    rw [z, Int.zero_add] at e
    rw [e]
    have hil : i < x.length := by rw [h.len]; omega
    refine ⟨by simpa using h.len, fun j h1 h2 => ?_, fun j hj => ?_, fun j h1 h2 => ?_, ?_⟩
    · rw [rd_set]
      by_cases e : i = j
      · subst e; rw [if_pos ⟨rfl, hil⟩]; exact ⟨hg, hsm⟩
      · rw [if_neg (by omega)]; exact h.bnd j (by omega) h2
    · rw [rd_set, if_neg (by omega)]; exact h.zero j (by omega)
    · rw [gains_set s i j x _ h1 l hl, rd_set]
      by_cases e : i = j
      · subst e; rw [if_pos ⟨rfl, hil⟩]
      · rw [if_neg (by omega)]; exact h.sum j (by omega) h2
    · rw [rd_set, if_neg (by omega)]; exact h.last
theorem isTab_mem (l : List ByteArray) (h : isTab l = true) : (∀ c ∈ l, 1 ≤ c.size ∧ c.size ≤ 5) ∧ l.Nodup ∧ 1 ≤ l.length ∧ l.length ≤ 10 := by
  simp only [isTab, Bool.and_eq_true, decide_eq_true_eq] at h
  obtain ⟨h1, h2⟩ := goodT_mem l [] h.2
  exact ⟨fun c hc => ⟨(h1 c hc).1, (h1 c hc).2.1⟩, h2, by omega, by omega⟩
theorem ways_inv (l : List ByteArray) (s : ByteArray) (hs : s.size ≤ 60) (h : isTab l = true) : WInv l s 0 (waysL l s) := by
  obtain ⟨h1, h2, _, _⟩ := isTab_mem l h
  refine wall_inv l s hs (fun c hc => (h1 c hc).1) h2 s.size _ (Nat.le_refl _) ?_
  have rz : ∀ j, rd (List.replicate (s.size + 1) (0 : Int)) (j : Nat) = 0 := fun j => by
    rw [rd_nat, List.getD_eq_getElem?_getD, List.getElem?_replicate]
    split <;> rfl
  refine ⟨by simp, fun j a b => ?_, fun j a => ?_, fun j a b => by omega, ?_⟩
  · obtain rfl : j = s.size := by omega
    rw [rd_set, if_pos ⟨rfl, by simp⟩]
    simp
  · rw [rd_set, if_neg (by omega), rz]
  · rw [rd_set, if_pos ⟨rfl, by simp⟩]
/-! the reading before which there are so many -/
def lt (p : Int) : ByteArray := strOfNums [(wrap64 (97 + p)) % 256]
theorem lt_size (p : Int) : (lt p).size = 1 := rfl
/-- the letter that a count falls to -/
def seek (s : ByteArray) (i : Nat) (W : List Int) : List ByteArray → Nat → Int → Option (Nat × ByteArray × Int)
  | [], _, _ => none
  | c :: t, j, k => if k < gain s i W c then some (j, c, k) else seek s i W t (j + 1) (k - gain s i W c)
theorem seek_some (s : ByteArray) (i : Nat) (W : List Int) (hW : ∀ j, 0 ≤ rd W (j : Nat)) : ∀ (l : List ByteArray) (j : Nat) (k : Int), 0 ≤ k → k < gains s i W l →
    ∃ j' c k', seek s i W l j k = some (j', c, k') ∧ c ∈ l ∧ fits s c i = true ∧ 0 ≤ k' ∧ k' < rd W ((i + c.size : Nat) : Int)
  | [], j, k, h0, h => by simp only [gains] at h; omega
  | c :: t, j, k, h0, h => by
    by_cases hk : k < gain s i W c
    · have hf : fits s c i = true := by
        by_cases hf : fits s c i = true
        · exact hf
        · unfold gain at hk; rw [if_neg hf] at hk; omega
      refine ⟨j, c, k, by simp only [seek, if_pos hk], by simp, hf, h0, ?_⟩
      unfold gain at hk; rw [if_pos hf] at hk; exact hk
    · simp only [gains] at h
      obtain ⟨j', c', k', h1, h2, h3⟩ := seek_some s i W hW t (j + 1) (k - gain s i W c) (by omega) (by omega)
      exact ⟨j', c', k', by simp only [seek, if_neg hk]; exact h1, by simp [h2], h3⟩
theorem gain_nn (s : ByteArray) (i : Nat) (W : List Int) (hW : ∀ j, 0 ≤ rd W (j : Nat)) (c : ByteArray) : 0 ≤ gain s i W c := by
  unfold gain; split
  · exact hW _
  · omega
theorem sRead_l1 (s : ByteArray) (hs : s.size ≤ 1048576) (l : List ByteArray) (hl : l.length ≤ 1048576) (hc : ∀ c ∈ l, c.size ≤ 1048576) (W : List Int) (hWl : W.length = s.size + 1) (hW : ∀ j, 0 ≤ rd W (j : Nat)) (i : Nat) (hi : i < s.size) (acc : ByteArray) (ha : acc.size ≤ 1048576) (q d : Nat) : ∀ (m j : Nat) (k : Int) (j' : Nat) (c : ByteArray) (k' : Int), m = q + d + 1 → j ≤ l.length → l.length - j = d → 0 ≤ k → k ≤ 9223372036854775807 → seek s i W (l.drop j) j k = some (j', c, k') →
    ∃ q', q ≤ q' ∧ spec_ReadingAt.l1 m s k W acc (i : Int) (j : Int) l = spec_ReadingAt.l0 q' s k' W (acc ++ lt (j' : Int)) ((i + c.size : Nat) : Int) l := by
  induction d with
  | zero =>
    intro m j k j' c k' hm hj hd h0 hk he
    rw [List.drop_eq_nil_of_le (by omega)] at he
    cases he
  | succ d ih =>
    intro m j k j' c k' hm hj hd h0 hk he
    obtain ⟨m, rfl⟩ : ∃ m', m = m' + 1 := ⟨q + d + 1, by clear ih; omega⟩
    have hlt : j < l.length := by clear ih; omega
    obtain ⟨a, has', hget, hdrop⟩ : ∃ a : ByteArray, a.size ≤ 1048576 ∧ rdOf ByteArray.empty l (j : Int) = a ∧ l.drop j = a :: l.drop (j + 1) := ⟨l[j], hc _ (List.getElem_mem hlt), rdS_get l j hlt, List.drop_eq_getElem_cons hlt⟩
    have c1 : (j : Int) < (l.length : Int) := by clear ih; omega
    have c2 : (0 : Int) ≤ (j : Int) := by clear ih; omega
    have e1 : wrap64 ((j : Int) + 1) = ((j + 1 : Nat) : Int) := by clear ih; rw [wr (by omega) (by omega)]; omega
    have e2 : wrap64 ((i : Int) + (a.size : Int)) = ((i + a.size : Nat) : Int) := by clear ih e1; rw [wr (by omega) (by omega)]; omega
    have hlet : spec_l2Letter.f (j : Int) = some (lt (j : Int)) := rfl
    have c3 : acc.size + (lt (j : Int)).size ≤ 9223372036854775807 := by rw [lt_size]; clear ih e1 e2; omega
    have hg0 := gain_nn s i W hW a
    rw [hdrop] at he
    simp only [seek] at he
    simp only [spec_ReadingAt.l1, c1, c2, if_true, hget, stands_eq s a i hs has' (by clear ih e1 e2; omega), Option.bind_some, e1, e2, hlet, c3]
    clear e1 e2
    by_cases hf : fits s a i = true
    · have hg : gain s i W a = rd W ((i + a.size : Nat) : Int) := by unfold gain; rw [if_pos hf]
      have hle := fits_le s a i hf
      rw [if_pos hf, if_pos (by clear ih; omega), if_pos (by rw [hWl]; clear ih; omega)]
      by_cases hlt2 : k < gain s i W a
      · rw [if_pos hlt2] at he
        obtain ⟨rfl, rfl, rfl⟩ : j = j' ∧ a = c ∧ k = k' := by simpa using he
        rw [hg] at hlt2
        rw [if_pos hlt2]
        exact ⟨m, by clear ih; omega, rfl⟩
      · rw [if_neg hlt2] at he
        have hn := ih m (j + 1) (k - gain s i W a) j' c k' (by omega) (by omega) (by omega) (by omega) (by omega) he
        rw [hg] at hlt2 hn hg0
        rw [if_neg hlt2, wr (by omega) (by omega)]
        exact hn
    · have hg : gain s i W a = 0 := by unfold gain; rw [if_neg hf]
      have hnl : ¬ k < 0 := by clear ih; omega
      rw [if_neg hf, if_neg hnl]
      rw [hg, if_neg hnl] at he
      have hn := ih m (j + 1) (k - 0) j' c k' (by omega) (by omega) (by omega) (by omega) (by omega) he
      rw [wr (by omega) (by omega)]
      exact hn
theorem iRead_l1 (s : ByteArray) (hs : s.size ≤ 1048576) (l : List ByteArray) (hl : l.length ≤ 1048576) (hc : ∀ c ∈ l, c.size ≤ 1048576) (W : List Int) (hWl : W.length = s.size + 1) (hW : ∀ j, 0 ≤ rd W (j : Nat)) (i : Nat) (hi : i < s.size) (acc : ByteArray) (ha : acc.size ≤ 1048576) (q d : Nat) : ∀ (m j : Nat) (k : Int) (j' : Nat) (c : ByteArray) (k' : Int), m = q + d + 1 → j ≤ l.length → l.length - j = d → 0 ≤ k → k ≤ 9223372036854775807 → seek s i W (l.drop j) j k = some (j', c, k') →
    ∃ q', q ≤ q' ∧ impl_ReadingAt.l1 m s k W acc (i : Int) l (l.length : Int) (j : Int) l = impl_ReadingAt.l0 q' s k' W (acc ++ lt (j' : Int)) ((i + c.size : Nat) : Int) l := by
  induction d with
  | zero =>
    intro m j k j' c k' hm hj hd h0 hk he
    rw [List.drop_eq_nil_of_le (by omega)] at he
    cases he
  | succ d ih =>
    intro m j k j' c k' hm hj hd h0 hk he
    obtain ⟨m, rfl⟩ : ∃ m', m = m' + 1 := ⟨q + d + 1, by clear ih; omega⟩
    have hlt : j < l.length := by clear ih; omega
    obtain ⟨a, has', hget, hdrop⟩ : ∃ a : ByteArray, a.size ≤ 1048576 ∧ rdOf ByteArray.empty l (j : Int) = a ∧ l.drop j = a :: l.drop (j + 1) := ⟨l[j], hc _ (List.getElem_mem hlt), rdS_get l j hlt, List.drop_eq_getElem_cons hlt⟩
    have c1 : (j : Int) < (l.length : Int) := by clear ih; omega
    have c2 : (0 : Int) ≤ (j : Int) := by clear ih; omega
    have c4 : (0 : Int) ≤ (i : Int) := by clear ih; omega
    have c5 : (i : Int) ≤ (s.size : Int) := by clear ih; omega
    have e1 : wrap64 ((j : Int) + 1) = ((j + 1 : Nat) : Int) := by clear ih; rw [wr (by omega) (by omega)]; omega
    have e2 : wrap64 ((i : Int) + (a.size : Int)) = ((i + a.size : Nat) : Int) := by clear ih e1; rw [wr (by omega) (by omega)]; omega
    have hlet : impl_letterText.f (j : Int) = some (lt (j : Int)) := rfl
    have c3 : acc.size + (lt (j : Int)).size ≤ 9223372036854775807 := by rw [lt_size]; clear ih e1 e2; omega
    have hg0 := gain_nn s i W hW a
    rw [hdrop] at he
    simp only [seek] at he
    simp only [impl_ReadingAt.l1, c1, c2, c4, c5, if_true, hget, Int.toNat_natCast, hasPrefix_eq s a i hs has' (by clear ih e1 e2; omega), Option.bind_some, e1, e2, hlet, c3]
    clear e1 e2
    by_cases hf : fits s a i = true
    · have hg : gain s i W a = rd W ((i + a.size : Nat) : Int) := by unfold gain; rw [if_pos hf]
      have hle := fits_le s a i hf
      rw [if_pos hf, if_pos (by clear ih; omega), if_pos (by rw [hWl]; clear ih; omega)]
      by_cases hlt2 : k < gain s i W a
      · rw [if_pos hlt2] at he
        obtain ⟨rfl, rfl, rfl⟩ : j = j' ∧ a = c ∧ k = k' := by simpa using he
        rw [hg] at hlt2
        rw [if_neg (by omega)]
        exact ⟨m, by clear ih; omega, rfl⟩
      · rw [if_neg hlt2] at he
        have hn := ih m (j + 1) (k - gain s i W a) j' c k' (by omega) (by omega) (by omega) (by omega) (by omega) he
        rw [hg] at hlt2 hn hg0
        rw [if_pos (by omega), wr (by omega) (by omega)]
        exact hn
    · have hg : gain s i W a = 0 := by unfold gain; rw [if_neg hf]
      have hnl : ¬ k < 0 := by clear ih; omega
      rw [if_neg hf]
      rw [hg, if_neg hnl, Int.sub_zero] at he
      exact ih m (j + 1) k j' c k' (by omega) (by omega) (by omega) (by omega) (by omega) he
/-- both walks through a text, letter after letter -/
theorem read_both (s : ByteArray) (hs : s.size ≤ 60) (l : List ByteArray) (h : isTab l = true) (W : List Int) (inv : WInv l s 0 W) (n : Nat) : ∀ (i : Nat) (k : Int) (acc : ByteArray), i ≤ s.size → s.size - i ≤ n → acc.size ≤ i → 0 ≤ k → k < rd W (i : Int) →
    ∃ r, ∀ m, 100 * n + 100 ≤ m → spec_ReadingAt.l0 m s k W acc (i : Int) l = some (r, true) ∧ impl_ReadingAt.l0 m s k W acc (i : Int) l = some (r, true) := by
  obtain ⟨hmem, hnd, hl1, hl10⟩ := isTab_mem l h
  have hcc : ∀ c ∈ l, c.size ≤ 1048576 := fun c hc => by have := hmem c hc; omega
  have hW : ∀ j, 0 ≤ rd W (j : Nat) := fun j => by
    by_cases hj : j ≤ s.size
    · exact (inv.bnd j (by omega) hj).1
    · rw [rd_nat, List.getD_eq_getElem?_getD, List.getElem?_eq_none (by rw [inv.len]; omega)]; decide
  have fin : ∀ (k : Int) (acc : ByteArray) (m : Nat), 100 ≤ m → spec_ReadingAt.l0 m s k W acc ((s.size : Nat) : Int) l = some (acc, true) ∧ impl_ReadingAt.l0 m s k W acc ((s.size : Nat) : Int) l = some (acc, true) := by
    intro k acc m hm
    obtain ⟨m, rfl⟩ : ∃ m', m = m' + 1 := ⟨m - 1, by omega⟩
    simp only [spec_ReadingAt.l0, impl_ReadingAt.l0]
    rw [if_neg (by omega), if_neg (by omega)]
    exact ⟨rfl, rfl⟩
  induction n with
  | zero =>
    intro i k acc hi hn ha h0 hk
    obtain rfl : i = s.size := by omega
    exact ⟨acc, fun m hm => fin k acc m (by omega)⟩
  | succ n ih =>
    intro i k acc hi hn ha h0 hk
    by_cases hlt : i < s.size
    · have hsum := inv.sum i (by omega) hlt
      have hb := (inv.bnd i (by omega) hi).2
      have hp : 2 ^ (s.size - i) ≤ 2 ^ 60 := Nat.pow_le_pow_right (by omega) (by omega)
      have hk63 : k ≤ 9223372036854775807 := by clear ih fin hW hsum; omega
      clear hb hp
      rw [hsum] at hk
      clear hsum
      obtain ⟨j', c, k', h1, h2, h3, h4, h5⟩ := seek_some s i W hW l 0 k h0 hk
      have hcs := hmem c h2
      have hle := fits_le s c i h3
      obtain ⟨r, hr⟩ := ih (i + c.size) k' (acc ++ lt (j' : Int)) hle (by omega) (by rw [ByteArray.size_append, lt_size]; omega) h4 h5
      refine ⟨r, fun m hm => ?_⟩
      obtain ⟨m, rfl⟩ : ∃ m', m = m' + 1 := ⟨m - 1, by omega⟩
      have hm2 : 100 * n + 100 ≤ m - l.length - 1 := by clear hr ih fin h1 h4 h5 hW hk hk63 h0; omega
      have hm3 : m = m - l.length - 1 + l.length + 1 := by clear hr ih fin h1 h4 h5 hW hk hk63 h0 hm2; omega
      have hs2 : s.size ≤ 1048576 := by clear hr ih fin h1 h4 h5 hW hk hk63 h0 hm2 hm3; omega
      have hl2 : l.length ≤ 1048576 := by clear hr ih fin h1 h4 h5 hW hk hk63 h0 hm2 hm3; omega
      have ha2 : acc.size ≤ 1048576 := by clear hr ih fin h1 h4 h5 hW hk hk63 h0 hm2 hm3; omega
      have hil : (i : Int) < (s.size : Int) := by clear hr ih fin h1 h4 h5 hW hk hk63 h0 hm2 hm3; omega
      obtain ⟨q1, hq1, e1⟩ := sRead_l1 s hs2 l hl2 hcc W inv.len hW i hlt acc ha2 (m - l.length - 1) l.length m 0 k j' c k' hm3 (Nat.zero_le _) (Nat.sub_zero _) h0 hk63 (by rw [List.drop_zero]; exact h1)
      obtain ⟨q2, hq2, e2⟩ := iRead_l1 s hs2 l hl2 hcc W inv.len hW i hlt acc ha2 (m - l.length - 1) l.length m 0 k j' c k' hm3 (Nat.zero_le _) (Nat.sub_zero _) h0 hk63 (by rw [List.drop_zero]; exact h1)
      simp only [spec_ReadingAt.l0, impl_ReadingAt.l0]
      rw [if_pos hil, if_pos hil]
      rw [Int.natCast_zero] at e1 e2
      rw [e1, e2]
      exact ⟨(hr q1 (Nat.le_trans hm2 hq1)).1, (hr q2 (Nat.le_trans hm2 hq2)).2⟩
    · obtain rfl : i = s.size := by omega
      exact ⟨acc, fun m hm => fin k acc m (by omega)⟩
/-! a law whose function is handed a table, and answers something and a bool -/
theorem law_ReadingAt (l0 : List ByteArray) (a1 : ByteArray) (a2 : Int) (hsz : ¬ (a1.size : Int) > 1048576) (hl : l0.length ≤ maxLen) (hs : ∀ s ∈ l0, s.size ≤ maxLen) (K : Nat)
    (h : l0.length ≤ 1048576 → (∀ s ∈ l0, s.size ≤ 1048576) → ∃ R, ∀ k, K ≤ k → spec_ReadingAt.f k l0 a1 a2 = some R ∧ impl_ReadingAt.f k l0 a1 a2 = some R) : ∃ k, laws_FnExactReadingAt.f k l0 a1 a2 = some true := by
  skip
  obtain ⟨t, ht, hb⟩ := szTable_eq l0 hl hs
  by_cases h0 : t < 0
  · refine ⟨l0.length + 1, ?_⟩
    unfold laws_FnExactReadingAt.f
    simp only [ht (l0.length + 1) (by omega), Option.bind_some, h0, if_true, if_false, ite_self, hsz]
  · obtain ⟨h1, h2⟩ := hb (by omega)
    obtain ⟨R, hR⟩ := h h1 h2
    obtain ⟨M, hM⟩ : ∃ M : Nat, K ≤ M ∧ 4194400 ≤ M := ⟨K + 4194400, by omega, by omega⟩
    refine ⟨M + 1, ?_⟩
    have r := hR (M + 1) (by omega)
    unfold laws_FnExactReadingAt.f
    simp only [ht (M + 1) (by omega), Option.bind_some, h0, if_false, hsz]
    simp only [toTable_eq l0 h1 (M + 1) (by omega), r.1, r.2, Option.bind_some, bne_self_eq_false, Bool.false_eq_true, if_false, if_true]
    simp only [laws_FnExactReadingAt.j0, toTable_eq l0 h1 (M) (by omega), eqTable_self l0 h1 (M) (by omega), Option.bind_some, Bool.false_eq_true, if_false, if_true]
theorem FnExactReadingAt : laws_FnExactReadingAt.Pure := by
  intro l a1 a2 hl hs _ _
  by_cases hsz : (a1.size : Int) > 1048576
  · refine ⟨0, ?_⟩
    unfold laws_FnExactReadingAt.f
    rw [if_pos hsz]
  refine law_ReadingAt l a1 a2 hsz hl hs (4198401 + wfuel l a1) fun h1 h2 => ?_
  by_cases ht : isRd l a1 = true
  · obtain ⟨ht1, ht2⟩ : isTab l = true ∧ isMk a1 0 40 = true := by simpa [isRd] using ht
    have hz : a1.size ≤ 40 := by
      simp only [isMk, Bool.and_eq_true, decide_eq_true_eq] at ht2; omega
    have inv := ways_inv l a1 (by omega) ht1
    have hb := inv.bnd 0 (by omega) (by omega)
    have hp : 2 ^ (a1.size - 0) ≤ 2 ^ 60 := Nat.pow_le_pow_right (by omega) (by omega)
    rw [Int.natCast_zero] at hb
    have ew : wrap64 (rd (waysL l a1) 0 - 1) = rd (waysL l a1) 0 - 1 := by rw [wr (by omega) (by omega)]
    by_cases hk : (decide (0 ≤ a2) && decide (a2 ≤ rd (waysL l a1) 0 - 1)) = true
    · have hk' := hk
      simp only [Bool.and_eq_true, decide_eq_true_eq] at hk'
      obtain ⟨r, hr⟩ := read_both a1 (by omega) l ht1 (waysL l a1) inv a1.size 0 a2 (⟨#[]⟩ : ByteArray) (by omega) (by omega) (by show 0 ≤ 0; omega) hk'.1 (by rw [Int.natCast_zero]; omega)
      refine ⟨(r, true), fun k hkk => ?_⟩
      have hr := hr k (by omega)
      rw [Int.natCast_zero] at hr
      unfold spec_ReadingAt.f impl_ReadingAt.f
      rw [l3Good_eq l h1 h2 a1 (by omega) k (by omega), isRead_eq l h1 h2 a1 (by omega) k (by omega), ht, l3Ways_eq l h1 h2 a1 (by omega) k (by omega), iWays_eq l h1 h2 a1 (by omega) k (by omega)]
      have hwl : (0 : Int) < ((waysL l a1).length : Int) := by rw [waysL_len]; omega
      simp only [Option.bind_some, if_true, l1In_eq, in_eq, ew, hk, hwl]
      exact hr
    · refine ⟨((⟨#[]⟩ : ByteArray), false), fun k hkk => ?_⟩
      unfold spec_ReadingAt.f impl_ReadingAt.f
      rw [l3Good_eq l h1 h2 a1 (by omega) k (by omega), isRead_eq l h1 h2 a1 (by omega) k (by omega), ht, l3Ways_eq l h1 h2 a1 (by omega) k (by omega), iWays_eq l h1 h2 a1 (by omega) k (by omega)]
      have hwl : (0 : Int) < ((waysL l a1).length : Int) := by rw [waysL_len]; omega
      simp only [Option.bind_some, if_true, l1In_eq, in_eq, ew, (Bool.not_eq_true _).mp hk, Bool.false_eq_true, if_false, hwl]
      exact ⟨trivial, trivial⟩
  · refine ⟨((⟨#[]⟩ : ByteArray), false), fun k hk => ?_⟩
    unfold spec_ReadingAt.f impl_ReadingAt.f
    rw [l3Good_eq l h1 h2 a1 (by omega) k (by omega), isRead_eq l h1 h2 a1 (by omega) k (by omega), (Bool.not_eq_true _).mp ht]
    simp only [Option.bind_some, Bool.false_eq_true, if_false]
    exact ⟨trivial, trivial⟩

end Go.Proofs.YtolfmhkhllfpmaaDoor.Pure
