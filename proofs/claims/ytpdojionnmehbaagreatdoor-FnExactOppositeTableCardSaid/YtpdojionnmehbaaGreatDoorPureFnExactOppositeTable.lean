/- OppositeTable of the program and of the reference answer alike at every table. -/
import Derived.Test.YtpdojionnmehbaaGreatDoorHFnExactOppositeTablex6
namespace Go.Proofs.YtpdojionnmehbaaGreatDoor.Pure
open Go.RowKit Go.Proofs.YtpdojionnmehbaaGreatDoor.HFnExactOppositeTable Go.Proofs.YtpdojionnmehbaaGreatDoorW.PrintWords Go.Proofs.YtpdojionnmehbaaGreatDoorW.PrintLast
set_option linter.unusedVariables false
set_option linter.unusedSimpArgs false
set_option linter.unnecessarySimpa false

theorem wr {i : Int} (h0 : -9223372036854775808 ≤ i) (h1 : i ≤ 9223372036854775807) : wrap64 i = i := by unfold wrap64; omega
theorem rd_nat (xs : List Int) (i : Nat) : rd xs (i : Int) = xs.getD i 0 := by simp [rd]
theorem rd_get (xs : List Int) (i : Nat) (h : i < xs.length) : rd xs (i : Int) = xs[i] := by simp [rd, h]
theorem pred_of_lt {d k : Nat} (h : d < k) : ∃ m, k = m + 1 := ⟨k - 1, by omega⟩
/-! bytes of a text -/
theorem size_data (s : ByteArray) : s.data.toList.length = s.size := Array.length_toList
theorem bt_nat (s : ByteArray) (i : Nat) (h : i < s.size) : bt s (i : Int) = ((s.data.toList[i]'(by rw [size_data]; exact h)).toNat : Int) := by
  have := bt_at s (i : Int) (by simpa using h)
  rw [← this]
  rfl
theorem byte_num (b c : UInt8) (n : Nat) (hc : c.toNat = n) : ((b.toNat : Int) = (n : Int)) ↔ b = c := by
  constructor
  · intro h
    exact UInt8.toNat_inj.1 (by omega)
  · rintro rfl; omega
/-! what is left when bytes of a set are taken off both ends -/
theorem dropWhile_nil {p : UInt8 → Bool} (l : List UInt8) : l.dropWhile p = [] ↔ l.all p = true := by
  induction l with
  | nil => simp
  | cons a l ih =>
    rw [List.dropWhile_cons]
    by_cases h : p a = true
    · rw [if_pos h, ih]; simp [h]
    · rw [if_neg h]; simp [h]
theorem trimS_nil (l cs : List UInt8) : Lib.trimS l cs = [] ↔ l.all (cs.contains ·) = true := by
  unfold Lib.trimS Lib.trimLeftS Lib.trimRightS
  rw [dropWhile_nil]
  constructor
  · intro h
    by_cases hr : (l.reverse.dropWhile (cs.contains ·)) = []
    · rw [dropWhile_nil, List.all_reverse] at hr; exact hr
    · exfalso
      rw [List.all_reverse] at h
      cases hd : l.reverse.dropWhile (cs.contains ·) with
      | nil => exact hr hd
      | cons a t =>
        have ha : cs.contains a = false := by
          have := List.head?_dropWhile_not (cs.contains ·) l.reverse
          rw [hd] at this
          simpa using this
        rw [hd] at h
        simp at h
        rw [List.contains_eq_mem] at ha
        simp [h.1] at ha
  · intro h
    have : (l.reverse.dropWhile (cs.contains ·)) = [] := by
      rw [dropWhile_nil, List.all_reverse]; exact h
    rw [this]; rfl
theorem toList_nil (l : List UInt8) : ((⟨l.toArray⟩ : ByteArray).toList == ([] : List UInt8)) = l.isEmpty := by
  have : (⟨l.toArray⟩ : ByteArray).toList = l := by
    rw [ByteArray.toList_eq]
  rw [this]
  cases l <;> rfl
theorem l1In_eq (a b c : Int) : spec_l1In.f a b c = some (decide (b ≤ a) && decide (a ≤ c)) := by
  unfold spec_l1In.f
  by_cases h : a ≥ b
  · rw [if_pos h]; simp [show b ≤ a from h]
  · rw [if_neg h]; simp [show ¬ b ≤ a from h]
theorem in_eq (a b c : Int) : impl_in.f a b c = some (decide (b ≤ a) && decide (a ≤ c)) := by
  unfold impl_in.f
  by_cases h : a ≥ b
  · rw [if_pos h]; simp [show b ≤ a from h]
  · rw [if_neg h]; simp [show ¬ b ≤ a from h]
/-! lists of texts: their sizes, copies, comparisons -/
theorem rdS_get (xs : List ByteArray) (i : Nat) (h : i < xs.length) : rdOf ByteArray.empty xs (i : Int) = xs[i] := by simp [rdOf, h]
theorem toList_inj (a b : ByteArray) : a.toList = b.toList ↔ a = b := by
  rw [ByteArray.toList_eq, ByteArray.toList_eq]
  constructor
  · intro h; exact ByteArray.ext (Array.toList_inj.1 h)
  · rintro rfl; rfl
theorem szStringS_l0 (l : List ByteArray) (hl : l.length ≤ maxLen) (hs : ∀ s ∈ l, s.size ≤ maxLen) (d : Nat) : ∀ (i : Nat) (left : Int), 0 ≤ left → left ≤ 1048576 → i ≤ l.length → l.length - i = d →
    ∃ t : Int, (∀ k, d < k → laws_szStringS.l0 k l left (i : Int) = some t) ∧ t ≤ left ∧ (0 ≤ t → ∀ j (h : j < l.length), i ≤ j → (l[j].size : Int) ≤ left) := by
  unfold maxLen at hl hs
  induction d with
  | zero =>
    intro i left h0 h1 hi hd
    refine ⟨left, fun k hk => ?_, by omega, fun _ j h hij => by omega⟩
    obtain ⟨k, rfl⟩ := pred_of_lt hk
    simp only [laws_szStringS.l0]; rw [if_neg (by omega)]
  | succ d ih =>
    intro i left h0 h1 hi hd
    have hlt : i < l.length := by omega
    have hsz := hs _ (List.getElem_mem hlt)
    have c1 : (i : Int) < (l.length : Int) := by omega
    have c2 : (0 : Int) ≤ (i : Int) := by omega
    have e1 : wrap64 ((i : Int) + 1) = ((i + 1 : Nat) : Int) := by rw [wr (by omega) (by omega)]; omega
    have e2 : wrap64 (left - (l[i].size : Int)) = left - (l[i].size : Int) := by rw [wr (by omega) (by omega)]
    by_cases hc : left - (l[i].size : Int) < 0
    · refine ⟨-1, fun k hk => ?_, by omega, fun h => by omega⟩
      obtain ⟨k, rfl⟩ := pred_of_lt hk
      simp only [laws_szStringS.l0, c1, c2, if_true, rdS_get l i hlt, e2, hc]
    · obtain ⟨t, ht, h2, h3⟩ := ih (i + 1) (left - (l[i].size : Int)) (by omega) (by omega) (by omega) (by omega)
      refine ⟨t, fun k hk => ?_, by omega, fun h0t j h hij => ?_⟩
      · obtain ⟨k, rfl⟩ := pred_of_lt hk
        simp only [laws_szStringS.l0, c1, c2, if_true, rdS_get l i hlt, e2, hc, if_false, e1]
        exact ht k (by omega)
      · by_cases hji : i = j
        · subst hji; omega
        · have := h3 h0t j h (by omega); omega
theorem szStringS_eq (l : List ByteArray) (hl : l.length ≤ maxLen) (hs : ∀ s ∈ l, s.size ≤ maxLen) : ∃ t : Int, (∀ k, l.length < k → laws_szStringS.f k l 1048576 = some t) ∧ (0 ≤ t → l.length ≤ 1048576 ∧ ∀ s ∈ l, s.size ≤ 1048576) := by
  have hl' := hl
  unfold maxLen at hl'
  have e : wrap64 (1048576 - (l.length : Int)) = 1048576 - (l.length : Int) := by rw [wr (by omega) (by omega)]
  by_cases hc : 1048576 - (l.length : Int) < 0
  · refine ⟨-1, fun k hk => ?_, fun h => by omega⟩
    unfold laws_szStringS.f
    rw [e, if_pos hc]
  · obtain ⟨t, ht, h2, h3⟩ := szStringS_l0 l hl hs l.length 0 (1048576 - (l.length : Int)) (by omega) (by omega) (by omega) (by omega)
    refine ⟨t, fun k hk => ?_, fun h0 => ⟨by omega, fun s hsm => ?_⟩⟩
    · unfold laws_szStringS.f
      rw [e, if_neg hc]
      exact ht k hk
    · obtain ⟨j, hj, rfl⟩ := List.getElem_of_mem hsm
      have := h3 h0 j hj (by omega)
      omega
theorem toStringS_l0 (x0 : List ByteArray) (hx : x0.length ≤ 1048576) (d : Nat) : ∀ (k i : Nat) (x3 : List ByteArray), i ≤ x0.length → x0.length - i = d → d < k → x3.length = x0.length → (∀ j, j < i → x3[j]? = x0[j]?) →
    laws_toStringS.l0 k x0 x3 (i : Int) = some x0 := by
  induction d with
  | zero =>
    intro k i x3 hi hd hk hl ht
    obtain ⟨k, rfl⟩ := pred_of_lt hk
    simp only [laws_toStringS.l0]; rw [if_neg (by omega)]
    refine congrArg some (List.ext_getElem? fun j => ?_)
    by_cases hj : j < i
    · exact ht j hj
    · rw [List.getElem?_eq_none (by omega), List.getElem?_eq_none (by omega)]
  | succ d ih =>
    intro k i x3 hi hd hk hl ht
    obtain ⟨k, rfl⟩ := pred_of_lt hk
    simp only [laws_toStringS.l0]; rw [if_pos (by omega), if_pos (by omega), if_pos (by omega), wr (by omega) (by omega)]
    have e : ((i : Int) + 1) = ((i + 1 : Nat) : Int) := by omega
    rw [e, Int.toNat_natCast, rdS_get x0 i (by omega)]
    refine ih k (i + 1) _ (by omega) (by omega) (by omega) (by simpa using hl) fun j hj => ?_
    rw [List.getElem?_set]
    by_cases hji : i = j
    · subst hji
      simp [show i < x3.length by omega, show i < x0.length by omega]
    · rw [if_neg hji]; exact ht j (by omega)
theorem toStringS_eq (l : List ByteArray) (h : l.length ≤ 1048576) (k : Nat) (hk : l.length < k) : laws_toStringS.f k l = some l := by
  unfold laws_toStringS.f
  rw [if_pos (by omega), if_pos (by omega)]
  exact toStringS_l0 l (by omega) l.length k 0 _ (by omega) (by omega) hk (by simp) (fun j hj => by omega)
theorem eqStringS_l0 (a : List ByteArray) (ha : a.length ≤ 1048576) (d : Nat) : ∀ (k i : Nat), i ≤ a.length → a.length - i = d → d < k → laws_eqStringS.l0 k a a (i : Int) = some true := by
  induction d with
  | zero =>
    intro k i hi hd hk
    obtain ⟨k, rfl⟩ := pred_of_lt hk
    simp only [laws_eqStringS.l0]; rw [if_neg (by omega)]
  | succ d ih =>
    intro k i hi hd hk
    obtain ⟨k, rfl⟩ := pred_of_lt hk
    simp only [laws_eqStringS.l0, if_true]; rw [if_pos (by omega), if_pos (by omega), if_pos (by omega), wr (by omega) (by omega)]
    have e : ((i : Int) + 1) = ((i + 1 : Nat) : Int) := by omega
    rw [e]
    exact ih k (i + 1) (by omega) (by omega) (by omega)
theorem eqStringS_self (a : List ByteArray) (ha : a.length ≤ 1048576) (k : Nat) (hk : a.length < k) : laws_eqStringS.f k a a = some true := by
  unfold laws_eqStringS.f
  rw [if_pos rfl]
  exact eqStringS_l0 a ha a.length k 0 (by omega) (by omega) hk
/-! a table that a law is handed -/
theorem szTable_eq (l : List ByteArray) (hl : l.length ≤ maxLen) (hs : ∀ s ∈ l, s.size ≤ maxLen) : ∃ t : Int, (∀ k, l.length < k → laws_szTable.f k l 1048576 = some t) ∧ (0 ≤ t → l.length ≤ 1048576 ∧ ∀ s ∈ l, s.size ≤ 1048576) := by
  obtain ⟨t, ht, h⟩ := szStringS_eq l hl hs
  by_cases h0 : t < 0
  · refine ⟨-1, fun k hk => ?_, fun h => by omega⟩
    unfold laws_szTable.f
    rw [ht k hk]; simp only [Option.bind_some]; rw [if_pos h0]
  · refine ⟨t, fun k hk => ?_, h⟩
    unfold laws_szTable.f
    rw [ht k hk]; simp only [Option.bind_some]; rw [if_neg h0]
theorem toTable_eq (l : List ByteArray) (h : l.length ≤ 1048576) (k : Nat) (hk : l.length < k) : laws_toTable.f k l = some l := by
  unfold laws_toTable.f; rw [toStringS_eq l h k hk]; rfl
theorem eqTable_self (l : List ByteArray) (h : l.length ≤ 1048576) (k : Nat) (hk : l.length < k) : laws_eqTable.f k l l = some true := by
  unfold laws_eqTable.f; rw [eqStringS_self l h k hk]; rfl
/-! marks, as both sides ask for them -/
def dotDash (b : UInt8) : Bool := b == 46 || b == 45
def isMk (s : ByteArray) (lo hi : Int) : Bool := (decide (lo ≤ (s.size : Int)) && decide ((s.size : Int) ≤ hi)) && s.data.toList.all dotDash
theorem bt_is (s : ByteArray) (i : Nat) (h : i < s.size) (c : UInt8) (n : Int) (hc : (c.toNat : Int) = n) : (bt s (i : Int) = n) ↔ (s.data.toList[i]'(by rw [size_data]; exact h)) = c := by
  rw [bt_nat s i h, ← hc]
  constructor
  · intro e; exact UInt8.toNat_inj.1 (by omega)
  · intro e; rw [e]
theorem l2Marks_l0 (s : ByteArray) (hs : s.size ≤ 1048576) (lo hi : Int) (d : Nat) : ∀ (k i : Nat), i ≤ s.size → s.size - i = d → 2 * d + 1 < k → (s.data.toList.take i).all dotDash = true → spec_l2Marks.l0 k s lo hi (i : Int) = some (isMk s lo hi) := by
  have hsz := size_data s
  induction d with
  | zero =>
    intro k i hi' hd hk ht
    obtain ⟨k, rfl⟩ := pred_of_lt hk
    obtain ⟨k, rfl⟩ : ∃ m, k = m + 1 := ⟨k - 1, by omega⟩
    simp only [spec_l2Marks.l0]; rw [if_neg (by omega)]
    simp only [spec_l2Marks.j1]; rw [if_neg (by simp), l1In_eq]
    rw [List.take_of_length_le (by omega)] at ht
    simp only [Option.bind_some, isMk, ht, Bool.and_true]
  | succ d ih =>
    intro k i hi' hd hk ht
    obtain ⟨k, rfl⟩ := pred_of_lt hk
    obtain ⟨k, rfl⟩ : ∃ m, k = m + 1 := ⟨k - 1, by omega⟩
    have c1 : (i : Int) < (s.size : Int) := by omega
    have c2 : (0 : Int) ≤ (i : Int) := by omega
    have e : wrap64 ((i : Int) + 1) = ((i + 1 : Nat) : Int) := by rw [wr (by omega) (by omega)]; omega
    simp only [spec_l2Marks.l0, c1, if_true, spec_l2Marks.j1]
    by_cases h200 : (i : Int) ≤ hi
    · have hd2 : decide ((i : Int) ≤ hi) = true := by simpa using h200
      simp only [hd2, c2, if_true, e]
      have hlt : i < s.data.toList.length := by omega
      have next : dotDash (s.data.toList[i]) = true → spec_l2Marks.l0 k s lo hi ((i + 1 : Nat) : Int) = some (isMk s lo hi) := fun hb => ih k (i + 1) (by omega) (by omega) (by omega) (by
        rw [List.take_succ_eq_append_getElem hlt, List.all_append, ht]; simp only [List.all_cons, List.all_nil, hb, Bool.and_true])
      by_cases h0 : bt s (i : Int) = 46
      · rw [if_pos h0]
        exact next (by rw [bt_is s i (by omega) 46 46 (by decide)] at h0; rw [h0]; decide)
      · rw [if_neg h0]
        by_cases h1 : bt s (i : Int) = 45
        · rw [if_pos h1]
          exact next (by rw [bt_is s i (by omega) 45 45 (by decide)] at h1; rw [h1]; decide)
        · rw [if_neg h1]
          rw [bt_is s i (by omega) 46 46 (by decide)] at h0
          rw [bt_is s i (by omega) 45 45 (by decide)] at h1
          have hm : s.data.toList[i] ∈ s.data.toList := List.getElem_mem _
          have hf : s.data.toList.all dotDash = false := by
            rw [List.all_eq_false]; exact ⟨_, hm, by simp only [dotDash, Bool.or_eq_true, beq_iff_eq, h0, h1, or_self, not_false_eq_true]⟩
          simp only [isMk, hf, Bool.and_false]
    · have hd2 : decide ((i : Int) ≤ hi) = false := by simpa using h200
      simp only [hd2, Bool.false_eq_true, if_false]
      have hn : decide ((s.size : Int) ≤ hi) = false := by simp; omega
      rw [l1In_eq]
      simp only [Option.bind_some, isMk, hn, Bool.and_false, Bool.false_and]
theorem l2Marks_eq (s : ByteArray) (hs : s.size ≤ 1048576) (lo hi : Int) (k : Nat) (hk : 2 * s.size + 1 < k) : spec_l2Marks.f k s lo hi = some (isMk s lo hi) := by
  unfold spec_l2Marks.f
  exact l2Marks_l0 s hs lo hi s.size k 0 (by omega) (by omega) hk (by simp)
theorem areMarks_eq (s : ByteArray) (hs : s.size ≤ 1048576) (lo hi : Int) : impl_areMarks.f s lo hi = some (isMk s lo hi) := by
  unfold impl_areMarks.f
  rw [in_eq]
  simp only [Option.bind_some]
  by_cases h : (decide (lo ≤ (s.size : Int)) && decide ((s.size : Int) ≤ hi)) = true
  · rw [if_pos h]
    unfold strings_Trim.f
    rw [if_pos (by omega), if_pos (by decide), if_pos (by decide)]
    simp only [Option.bind_some]
    rw [toList_nil]
    have e : (Lib.trimS s.data.toList [46, 45]).isEmpty = s.data.toList.all dotDash := by
      rw [Bool.eq_iff_iff, List.isEmpty_iff, trimS_nil]
      have : (fun x => [46, 45].contains x) = dotDash := by
        funext x
        simp [dotDash, List.contains_eq_mem]
        rfl
      rw [this]
    show some (Lib.trimS s.data.toList [46, 45]).isEmpty = _
    rw [e]
    simp only [isMk, h, Bool.true_and]
  · rw [if_neg h]
    simp only [isMk, (Bool.not_eq_true _).mp h, Bool.false_and]
theorem in_eq' (a b c : Int) : impl_in.f a b c = some (decide (b ≤ a) && decide (a ≤ c)) := in_eq a b c
/-! a table, as both sides ask for it -/
def has (l : List ByteArray) (a : ByteArray) : Bool := l.any fun b => a.toList == b.toList
def goodT : List ByteArray → List ByteArray → Bool
  | _, [] => true
  | seen, a :: t => isMk a 1 5 && (!has seen a && goodT (seen ++ [a]) t)
def isTab (l : List ByteArray) : Bool := (decide (1 ≤ (l.length : Int)) && decide ((l.length : Int) ≤ 10)) && goodT [] l
theorem take_snoc {α : Type} (l : List α) (i : Nat) (h : i < l.length) : l.take (i + 1) = l.take i ++ [l[i]] := List.take_succ_eq_append_getElem h
theorem drop_cons {α : Type} (l : List α) (i : Nat) (h : i < l.length) : l.drop i = l[i] :: l.drop (i + 1) := List.drop_eq_getElem_cons h
theorem has_take (l : List ByteArray) (a : ByteArray) (i : Nat) (h : i < l.length) : has (l.take (i + 1)) a = (has (l.take i) a || (a.toList == l[i].toList)) := by
  unfold has
  rw [take_snoc l i h, List.any_append]; simp only [List.any_cons, List.any_nil, Bool.or_false]
/-- where a text stands in a list first, or -1 -/
def placeN (l : List ByteArray) (a : ByteArray) : Int := match l.findIdx? (fun b => a.toList == b.toList) with
  | some i => (i : Int)
  | none => -1
theorem place_hit (l : List ByteArray) (a : ByteArray) (i : Nat) (hi : i < l.length) (h1 : has (l.take i) a = false) (h2 : a.toList = l[i].toList) : placeN l a = (i : Int) := by
  unfold placeN
  have : l.findIdx? (fun b => a.toList == b.toList) = some i := by
    rw [List.findIdx?_eq_some_iff_getElem]
    refine ⟨hi, by simpa using h2, fun j hj => ?_⟩
    intro hc
    have hm : l[j] ∈ l.take i := by
      rw [List.mem_take_iff_getElem]
      exact ⟨j, by omega, rfl⟩
    have ht : has (l.take i) a = true := List.any_eq_true.2 ⟨_, hm, hc⟩
    rw [h1] at ht; cases ht
  rw [this]
theorem place_none (l : List ByteArray) (a : ByteArray) (h : has l a = false) : placeN l a = -1 := by
  unfold placeN
  have : l.findIdx? (fun b => a.toList == b.toList) = none := by
    rw [List.findIdx?_eq_none_iff]
    intro x hx
    have := List.any_eq_false.1 h x hx
    simpa using this
  rw [this]
theorem l2Place_l0 (l : List ByteArray) (hl : l.length ≤ 1048576) (a : ByteArray) (d : Nat) : ∀ (k i : Nat), i ≤ l.length → l.length - i = d → d < k → has (l.take i) a = false → spec_l2Place.l0 k l a (i : Int) = some (placeN l a) := by
  induction d with
  | zero =>
    intro k i hi hd hk ht
    obtain ⟨k, rfl⟩ := pred_of_lt hk
    simp only [spec_l2Place.l0]; rw [if_neg (by omega)]
    rw [List.take_of_length_le (by omega)] at ht
    rw [place_none l a ht]
  | succ d ih =>
    intro k i hi hd hk ht
    obtain ⟨k, rfl⟩ := pred_of_lt hk
    have hlt : i < l.length := by omega
    simp only [spec_l2Place.l0]; rw [if_pos (by omega), if_pos (by omega), rdS_get l i hlt]
    by_cases hc : l[i].toList = a.toList
    · rw [if_pos hc, place_hit l a i hlt ht hc.symm]
    · rw [if_neg hc, wr (by omega) (by omega)]
      have e : ((i : Int) + 1) = ((i + 1 : Nat) : Int) := by omega
      rw [e]
      refine ih k (i + 1) (by omega) (by omega) (by omega) ?_
      rw [has_take l a i hlt, ht, Bool.false_or, beq_eq_false_iff_ne]
      exact fun e => hc e.symm
theorem l2Place_eq (l : List ByteArray) (hl : l.length ≤ 1048576) (a : ByteArray) (k : Nat) (hk : l.length < k) : spec_l2Place.f k l a = some (placeN l a) := by
  unfold spec_l2Place.f
  exact l2Place_l0 l hl a l.length k 0 (by omega) (by omega) hk (by simp [has])
theorem sIndex_l0 (l : List ByteArray) (hl : l.length ≤ 1048576) (a : ByteArray) (d : Nat) : ∀ (k i : Nat), i ≤ l.length → l.length - i = d → d < k → has (l.take i) a = false → slices_Index_string_string.l0 k l a (l.length : Int) (i : Int) = some (placeN l a) := by
  induction d with
  | zero =>
    intro k i hi hd hk ht
    obtain ⟨k, rfl⟩ := pred_of_lt hk
    simp only [slices_Index_string_string.l0]; rw [if_neg (by omega)]
    rw [List.take_of_length_le (by omega)] at ht
    rw [place_none l a ht]
  | succ d ih =>
    intro k i hi hd hk ht
    obtain ⟨k, rfl⟩ := pred_of_lt hk
    have hlt : i < l.length := by omega
    simp only [slices_Index_string_string.l0]; rw [if_pos (by omega), if_pos (by omega), if_pos (by omega), rdS_get l i hlt]
    by_cases hc : a.toList = l[i].toList
    · rw [if_pos hc, place_hit l a i hlt ht hc]
    · rw [if_neg hc, wr (by omega) (by omega)]
      have e : ((i : Int) + 1) = ((i + 1 : Nat) : Int) := by omega
      rw [e]
      refine ih k (i + 1) (by omega) (by omega) (by omega) ?_
      rw [has_take l a i hlt, ht, Bool.false_or, beq_eq_false_iff_ne]
      exact hc
theorem sIndex_eq (l : List ByteArray) (hl : l.length ≤ 1048576) (a : ByteArray) (k : Nat) (hk : l.length < k) : slices_Index_string_string.f k l a = some (placeN l a) := by
  unfold slices_Index_string_string.f
  exact sIndex_l0 l hl a l.length k 0 (by omega) (by omega) hk (by simp [has])
theorem place_has (l : List ByteArray) (a : ByteArray) : decide (placeN l a ≥ 0) = has l a := by
  by_cases h : has l a = true
  · obtain ⟨x, hx, hb⟩ := List.any_eq_true.1 h
    unfold placeN
    cases hf : l.findIdx? (fun b => a.toList == b.toList) with
    | none =>
      have := List.findIdx?_eq_none_iff.1 hf x hx
      rw [hb] at this; cases this
    | some i => rw [h]; simp
  · rw [place_none l a ((Bool.not_eq_true _).mp h), (Bool.not_eq_true _).mp h]; decide
theorem sContains_eq (l : List ByteArray) (hl : l.length ≤ 1048576) (a : ByteArray) (k : Nat) (hk : l.length < k) : slices_Contains_string_string.f k l a = some (has l a) := by
  unfold slices_Contains_string_string.f
  rw [sIndex_eq l hl a k hk]
  simp only [Option.bind_some]
  rw [place_has]
theorem place_self (l : List ByteArray) (i : Nat) (hi : i < l.length) : (placeN l l[i] = (i : Int)) ↔ has (l.take i) l[i] = false := by
  constructor
  · intro h
    by_cases hc : has (l.take i) l[i] = true
    · exfalso
      obtain ⟨x, hx, hb⟩ := List.any_eq_true.1 hc
      obtain ⟨j, hj, rfl⟩ := List.getElem_of_mem hx
      rw [List.length_take] at hj
      unfold placeN at h
      cases hf : l.findIdx? (fun b => l[i].toList == b.toList) with
      | none => rw [hf] at h; simp at h
      | some m =>
        rw [hf] at h
        have hm : m = i := by
          have h' : (m : Int) = (i : Int) := h
          omega
        subst hm
        have := (List.findIdx?_eq_some_iff_getElem.1 hf).2.2 j (by omega)
        rw [List.getElem_take] at hb
        exact this hb
    · exact (Bool.not_eq_true _).mp hc
  · intro h
    exact place_hit l l[i] i hi h rfl
theorem l2Table_l0 (l : List ByteArray) (hl : l.length ≤ 1048576) (hs : ∀ s ∈ l, s.size ≤ 1048576) (M : Nat) (hM : l.length + 2097160 ≤ M) (d : Nat) : ∀ (k i : Nat), i ≤ l.length → l.length - i = d → M + d < k → spec_l2Table.l0 k (i : Int) l = some (goodT (l.take i) (l.drop i)) := by
  induction d with
  | zero =>
    intro k i hi hd hk
    obtain ⟨k, rfl⟩ := pred_of_lt hk
    simp only [spec_l2Table.l0]; rw [if_neg (by omega), List.drop_eq_nil_of_le (by omega)]
    simp [goodT]
  | succ d ih =>
    intro k i hi hd hk
    obtain ⟨k, rfl⟩ := pred_of_lt hk
    have hlt : i < l.length := by omega
    have hz := hs _ (List.getElem_mem hlt)
    rw [drop_cons l i hlt]
    simp only [spec_l2Table.l0]; rw [if_pos (by omega), if_pos (by omega), rdS_get l i hlt, l2Marks_eq _ hz 1 5 k (by omega), l2Place_eq l hl _ k (by omega)]
    simp only [Option.bind_some, goodT]
    by_cases h1 : isMk l[i] 1 5 = true
    · rw [if_pos h1, h1, Bool.true_and]
      by_cases h2 : placeN l l[i] = (i : Int)
      · rw [if_pos h2, (place_self l i hlt).1 h2, wr (by omega) (by omega)]
        have e : ((i : Int) + 1) = ((i + 1 : Nat) : Int) := by omega
        rw [e, ih k (i + 1) (by omega) (by omega) (by omega), take_snoc l i hlt]
        simp
      · rw [if_neg h2]
        have : has (l.take i) l[i] = true := by
          by_cases hc : has (l.take i) l[i] = true
          · exact hc
          · exact absurd ((place_self l i hlt).2 ((Bool.not_eq_true _).mp hc)) h2
        rw [this]; simp
    · rw [if_neg h1, (Bool.not_eq_true _).mp h1]; simp
theorem l2Table_eq (l : List ByteArray) (hl : l.length ≤ 1048576) (hs : ∀ s ∈ l, s.size ≤ 1048576) (k : Nat) (hk : 4194400 ≤ k) : spec_l2Table.f k l = some (isTab l) := by
  unfold spec_l2Table.f
  rw [l1In_eq]
  simp only [Option.bind_some]
  by_cases h : (decide (1 ≤ (l.length : Int)) && decide ((l.length : Int) ≤ 10)) = true
  · rw [if_pos h]
    have h10 : l.length ≤ 10 := by simp only [Bool.and_eq_true, decide_eq_true_eq] at h; omega
    have := l2Table_l0 l hl hs (l.length + 2097160) (by omega) l.length k 0 (by omega) (by omega) (by omega)
    rw [List.take_zero, List.drop_zero] at this
    simp only [isTab, h, Bool.true_and]
    exact this
  · rw [if_neg h]; simp only [isTab, (Bool.not_eq_true _).mp h, Bool.false_and]
theorem isLetterMarks_eq (s : ByteArray) (hs : s.size ≤ 1048576) : impl_isLetterMarks.f s = some (isMk s 1 5) := by
  unfold impl_isLetterMarks.f
  rw [areMarks_eq s hs]; rfl
theorem isTable_l0 (l : List ByteArray) (hl : l.length ≤ 1048576) (hs : ∀ s ∈ l, s.size ≤ 1048576) (d : Nat) : ∀ (k i : Nat), i ≤ l.length → l.length - i = d → l.length + d < k →
    impl_isTable.l0 k l (l.length : Int) (i : Int) l = some (goodT (l.take i) (l.drop i) && (decide (1 ≤ (l.length : Int)) && decide ((l.length : Int) ≤ 10))) := by
  induction d with
  | zero =>
    intro k i hi hd hk
    obtain ⟨k, rfl⟩ := pred_of_lt hk
    simp only [impl_isTable.l0]; rw [if_neg (by omega), List.drop_eq_nil_of_le (by omega), in_eq]
    simp [goodT]
  | succ d ih =>
    intro k i hi hd hk
    obtain ⟨k, rfl⟩ := pred_of_lt hk
    have hlt : i < l.length := by omega
    have hz := hs _ (List.getElem_mem hlt)
    have c1 : (i : Int) ≤ (l.length : Int) := by omega
    rw [drop_cons l i hlt]
    simp only [impl_isTable.l0]; rw [if_pos (by omega), if_pos (by omega), if_pos (by omega), rdS_get l i hlt, isLetterMarks_eq _ hz]
    simp only [Option.bind_some, goodT]
    by_cases h1 : isMk l[i] 1 5 = true
    · rw [if_pos h1, h1, Bool.true_and, if_pos c1, Int.toNat_natCast, sContains_eq _ (by rw [List.length_take]; omega) _ k (by rw [List.length_take]; omega)]
      simp only [Option.bind_some]
      by_cases h2 : has (l.take i) l[i] = true
      · rw [if_pos h2, h2]; simp
      · rw [if_neg h2, (Bool.not_eq_true _).mp h2, wr (by omega) (by omega)]
        have e : ((i : Int) + 1) = ((i + 1 : Nat) : Int) := by omega
        rw [e, ih k (i + 1) (by omega) (by omega) (by omega), take_snoc l i hlt]
        simp
    · rw [if_neg h1, (Bool.not_eq_true _).mp h1]; simp
theorem isTable_eq (l : List ByteArray) (hl : l.length ≤ 1048576) (hs : ∀ s ∈ l, s.size ≤ 1048576) (k : Nat) (hk : 4194400 ≤ k) : impl_isTable.f k l = some (isTab l) := by
  unfold impl_isTable.f
  have := isTable_l0 l hl hs l.length k 0 (by omega) (by omega) (by omega)
  rw [List.take_zero, List.drop_zero] at this
  rw [show isTab l = (goodT [] l && (decide (1 ≤ (l.length : Int)) && decide ((l.length : Int) ≤ 10))) from Bool.and_comm _ _]
  exact this
/-! marks that are laid into a list of texts and found again -/
theorem strNum_size (n : Int) : (strOfNums [n]).size = 1 := rfl
theorem markText_l0 (f : Nat) : ∀ (a : Int) (x : ByteArray), 0 ≤ a → a < 10 ^ f → a ≤ 1000000000 → x.size + f ≤ 1000 → ∃ r, ∀ k, f < k → laws_markText.l0 k a x = some r := by
  induction f with
  | zero =>
    intro a x h0 h1 h2 hx
    refine ⟨(⟨#[109]⟩ : ByteArray) ++ x, fun k hk => ?_⟩
    obtain ⟨k, rfl⟩ := pred_of_lt hk
    simp only [laws_markText.l0]
    rw [if_neg (by simp at h1; omega), if_pos (by omega)]
  | succ f ih =>
    intro a x h0 h1 h2 hx
    by_cases hp : a > 0
    · have hq : Int.tdiv a 10 = a / 10 := Int.tdiv_eq_ediv_of_nonneg h0
      have hlt : a / 10 < 10 ^ f := by
        rw [Int.pow_succ] at h1
        exact Int.ediv_lt_of_lt_mul (by decide) h1
      obtain ⟨r, hr⟩ := ih (a / 10) (strOfNums [(wrap64 (48 + (Int.tmod a 10))) % 256] ++ x) (by omega) hlt (by omega) (by rw [ByteArray.size_append, strNum_size]; omega)
      refine ⟨r, fun k hk => ?_⟩
      obtain ⟨k, rfl⟩ := pred_of_lt hk
      simp only [laws_markText.l0]
      rw [if_pos hp]
      simp only [Option.bind_some]
      rw [if_pos (by rw [strNum_size]; omega), hq, wr (i := a / 10) (by omega) (by omega)]
      exact hr k (by omega)
    · refine ⟨(⟨#[109]⟩ : ByteArray) ++ x, fun k hk => ?_⟩
      obtain ⟨k, rfl⟩ := pred_of_lt hk
      simp only [laws_markText.l0]
      rw [if_neg hp, if_pos (by omega)]
theorem markText_ex (a : Int) (h0 : 0 ≤ a) (h1 : a ≤ 100000000) : ∃ r, ∀ k, 9 < k → laws_markText.f k a = some r := by
  unfold laws_markText.f
  by_cases h : a ≤ 0
  · exact ⟨_, fun k hk => by rw [if_pos h]⟩
  · obtain ⟨r, hr⟩ := markText_l0 9 a (⟨#[]⟩ : ByteArray) h0 (by omega) (by omega) (by show 0 + 9 ≤ 1000; omega)
    exact ⟨r, fun k hk => by rw [if_neg h]; exact hr k hk⟩
def mt (a : Int) : ByteArray := (laws_markText.f 10 a).getD ByteArray.empty
theorem markText_eq (a : Int) (h0 : 0 ≤ a) (h1 : a ≤ 100000000) (k : Nat) (hk : 9 < k) : laws_markText.f k a = some (mt a) := by
  obtain ⟨r, hr⟩ := markText_ex a h0 h1
  unfold mt
  rw [hr k hk, hr 10 (by omega)]; rfl
def seqS (a : Int) (n : Nat) : List ByteArray := (List.range n).map fun (j : Nat) => mt (a + (j : Int))
theorem seqS_len (a : Int) (n : Nat) : (seqS a n).length = n := by simp [seqS]
theorem seqS_get (a : Int) (n j : Nat) (h : j < n) : (seqS a n)[j]? = some (mt (a + (j : Int))) := by simp [seqS, h]
theorem markStringS_l0 (a : Int) (h0 : 0 ≤ a) (h1 : a ≤ 10000000) (n : Nat) (hn : n ≤ 10000000) (d : Nat) : ∀ (k i : Nat) (x0 : List ByteArray), x0.length = n → i ≤ n → n - i = d → d + 10 < k → (∀ j, j < i → x0[j]? = some (mt (a + (j : Int)))) →
    laws_markStringS.l0 k x0 (a + (i : Int)) (i : Int) = some (a + (n : Int), seqS a n) := by
  induction d with
  | zero =>
    intro k i x0 hl hi hd hk ht
    obtain ⟨k, rfl⟩ := pred_of_lt hk
    simp only [laws_markStringS.l0]; rw [if_neg (by omega)]
    have hin : i = n := by omega
    have : x0 = seqS a n := List.ext_getElem? fun j => by
      by_cases hj : j < i
      · rw [ht j hj, seqS_get a n j (by omega)]
      · rw [List.getElem?_eq_none (by omega), List.getElem?_eq_none (by rw [seqS_len]; omega)]
    rw [this, hin]
  | succ d ih =>
    intro k i x0 hl hi hd hk ht
    obtain ⟨k, rfl⟩ := pred_of_lt hk
    simp only [laws_markStringS.l0]; rw [if_pos (by omega), markText_eq _ (by omega) (by omega) k (by omega)]
    simp only [Option.bind_some]
    rw [if_pos (by omega), wr (by omega) (by omega), wr (by omega) (by omega)]
    have e : ((i : Int) + 1) = ((i + 1 : Nat) : Int) := by omega
    have e2 : a + (i : Int) + 1 = a + ((i + 1 : Nat) : Int) := by omega
    rw [e2, e, Int.toNat_natCast]
    refine ih k (i + 1) _ (by simpa using hl) (by omega) (by omega) (by omega) fun j hj => ?_
    rw [List.getElem?_set]
    by_cases hji : i = j
    · subst hji
      simp [show i < x0.length by omega]
    · rw [if_neg hji]; exact ht j (by omega)
theorem markStringS_eq (l : List ByteArray) (a : Int) (h0 : 0 ≤ a) (h1 : a ≤ 10000000) (h : l.length ≤ 10000000) (k : Nat) (hk : l.length + 10 < k) : laws_markStringS.f k l a = some (a + (l.length : Int), seqS a l.length) := by
  unfold laws_markStringS.f
  have := markStringS_l0 a h0 h1 l.length h l.length k 0 l rfl (by omega) (by omega) hk (fun j hj => by omega)
  simpa using this
theorem heldStringS_l0 (a : Int) (h0 : 0 ≤ a) (h1 : a ≤ 10000000) (n : Nat) (hn : n ≤ 10000000) (d : Nat) : ∀ (k i : Nat), i ≤ n → n - i = d → d + 10 < k → laws_heldStringS.l0 k (seqS a n) (a + (i : Int)) (i : Int) = some (a + (n : Int)) := by
  induction d with
  | zero =>
    intro k i hi hd hk
    obtain ⟨k, rfl⟩ := pred_of_lt hk
    simp only [laws_heldStringS.l0]; rw [seqS_len, if_neg (by omega), show i = n by omega]
  | succ d ih =>
    intro k i hi hd hk
    obtain ⟨k, rfl⟩ := pred_of_lt hk
    have hg : rdOf ByteArray.empty (seqS a n) (i : Int) = mt (a + (i : Int)) := by
      have := seqS_get a n i (by omega)
      simp only [rdOf, Int.toNat_natCast]
      rw [List.getD_eq_getElem?_getD, this]; rfl
    simp only [laws_heldStringS.l0]; rw [seqS_len, if_pos (by omega), if_pos (by omega), markText_eq _ (by omega) (by omega) k (by omega), hg]
    simp only [Option.bind_some, if_true]
    rw [wr (by omega) (by omega), wr (by omega) (by omega)]
    have e : ((i : Int) + 1) = ((i + 1 : Nat) : Int) := by omega
    have e2 : a + (i : Int) + 1 = a + ((i + 1 : Nat) : Int) := by omega
    rw [e2, e]
    exact ih k (i + 1) (by omega) (by omega) (by omega)
theorem heldStringS_eq (a : Int) (h0 : 0 ≤ a) (h1 : a ≤ 10000000) (n : Nat) (hn : n ≤ 10000000) (k : Nat) (hk : n + 10 < k) : laws_heldStringS.f k (seqS a n) a = some (a + (n : Int)) := by
  unfold laws_heldStringS.f
  have := heldStringS_l0 a h0 h1 n hn n k 0 (by omega) (by omega) hk
  simpa using this
/-! a text as a list of bytes, and as a list of numbers -/
def txt (l : List UInt8) : ByteArray := ⟨l.toArray⟩
theorem txt_data (l : List UInt8) : (txt l).data.toList = l := rfl
theorem txt_size (l : List UInt8) : (txt l).size = l.length := by rw [← size_data, txt_data]
theorem txt_of (s : ByteArray) : txt s.data.toList = s := rfl
theorem txt_app (l m : List UInt8) : txt l ++ txt m = txt (l ++ m) := by
  apply ByteArray.ext
  apply Array.toList_inj.1
  rw [ByteArray.data_append, Array.toList_append]
  rfl
/-! a law whose function is handed a table and answers a table and a bool -/
theorem markTable_eq (l : List ByteArray) (h : l.length ≤ 10000000) (k : Nat) (hk : l.length + 10 < k) : laws_markTable.f k l 1 = some (1 + (l.length : Int), seqS 1 l.length) := by
  unfold laws_markTable.f
  rw [markStringS_eq l 1 (by omega) (by omega) h k hk]; rfl
theorem heldTable_eq (n : Nat) (h : n ≤ 10000000) (k : Nat) (hk : n + 10 < k) : laws_heldTable.f k (seqS 1 n) 1 = some (1 + (n : Int)) := by
  unfold laws_heldTable.f
  rw [heldStringS_eq 1 (by omega) (by omega) n h k hk]
  simp only [Option.bind_some]
  rw [if_neg (by omega)]
theorem law_OppositeTable (l0 : List ByteArray)   (hl : l0.length ≤ maxLen) (hs : ∀ s ∈ l0, s.size ≤ maxLen) (K : Nat)
    (h : l0.length ≤ 1048576 → (∀ s ∈ l0, s.size ≤ 1048576) → ∃ (R : List ByteArray) (b : Bool), R.length ≤ 1048576 ∧ ∀ k, K ≤ k → spec_OppositeTable.f k l0   = some (R, b) ∧ impl_OppositeTable.f k l0   = some (R, b)) : ∃ k, laws_FnExactOppositeTable.f k l0   = some true := by
  skip
  obtain ⟨t, ht, hb⟩ := szTable_eq l0 hl hs
  by_cases h0 : t < 0
  · refine ⟨l0.length + 1, ?_⟩
    unfold laws_FnExactOppositeTable.f
    simp only [ht (l0.length + 1) (by omega), Option.bind_some, h0, if_true, if_false, ite_self ]
  · obtain ⟨h1, h2⟩ := hb (by omega)
    obtain ⟨R, b, hRl, hR⟩ := h h1 h2
    obtain ⟨M, hM⟩ : ∃ M : Nat, K ≤ M ∧ 4194400 ≤ M := ⟨K + 4194400, by omega, by omega⟩
    refine ⟨M + 3, ?_⟩
    have a1 := ht (M + 3) (by omega)
    have a2 := toTable_eq l0 h1 (M + 3) (by omega)
    have r := hR (M + 3) (by omega)
    have a3 := eqTable_self R hRl (M + 3) (by omega)
    have b1 := toTable_eq l0 h1 (M + 2) (by omega)
    have b2 := eqTable_self l0 h1 (M + 2) (by omega)
    have b3 := markTable_eq l0 (by omega) (M + 2) (by omega)
    have b4 := eqTable_self R hRl (M + 2) (by omega)
    have c1 := markTable_eq R (by omega) (M + 1) (by omega)
    have c2 := heldTable_eq R.length (by omega) (M + 1) (by omega)
    have c3 := toTable_eq l0 h1 (M + 1) (by omega)
    have c4 := (hR (M + 1) (by omega)).2
    have c5 := eqTable_self R hRl (M + 1) (by omega)
    have d1 := heldTable_eq R.length (by omega) M (by omega)
    unfold laws_FnExactOppositeTable.f
    simp only [a1, Option.bind_some, h0, if_false ]
    simp only [a2, r.1, r.2, a3, Option.bind_some, bne_self_eq_false, if_true]
    simp only [laws_FnExactOppositeTable.j0, b1, b2, b3, b4, Option.bind_some, Bool.false_eq_true, if_false, if_true, bne_self_eq_false]
    rw [if_neg (by omega)]
    simp only [laws_FnExactOppositeTable.j1, c1, c2, Option.bind_some, Bool.false_eq_true, if_false, if_true]
    rw [if_neg (by omega)]
    simp only [c3, c4, c5, Option.bind_some, Bool.false_eq_true, if_false, if_true, bne_self_eq_false]
    simp only [laws_FnExactOppositeTable.j2, d1, Option.bind_some, Bool.false_eq_true, if_false, if_true]
    rw [if_neg (by omega)]
def oppB (s : ByteArray) : ByteArray := impl_opposite.opp s
theorem oppB_eq (s : ByteArray) : oppB s = txt (s.data.toList.map impl_opposite.opB) := rfl
theorem l2Opposite_l0 (s : ByteArray) (hs : s.size ≤ 1048576) (hd0 : s.data.toList.all dotDash = true) (d : Nat) : ∀ (k i : Nat), i ≤ s.size → s.size - i = d → d < k → spec_l2Opposite.l0 k s (txt ((s.data.toList.take i).map impl_opposite.opB)) (i : Int) = some (oppB s) := by
  induction d with
  | zero =>
    intro k i hi hd hk
    obtain ⟨m, rfl⟩ := pred_of_lt hk
    have e : i = s.size := by omega
    subst e
    rw [spec_l2Opposite.l0, if_neg (by omega), List.take_of_length_le (by rw [size_data]; omega)]
    rfl
  | succ d ih =>
    intro k i hi hd hk
    obtain ⟨m, rfl⟩ := pred_of_lt hk
    have h2 : i < s.data.toList.length := by rw [size_data]; omega
    have hb := bt_is s i (by omega) 46 46 rfl
    have hdd := List.all_eq_true.1 hd0 _ (List.getElem_mem h2)
    have e : wrap64 ((i : Int) + 1) = ((i + 1 : Nat) : Int) := by rw [wr (by omega) (by omega)]; rfl
    have hz : (txt ((s.data.toList.take i).map impl_opposite.opB)).size ≤ 1048576 := by rw [txt_size, List.length_map, List.length_take]; omega
    have hn := ih m (i + 1) (by omega) (by omega) (by omega)
    rw [List.take_succ_eq_append_getElem h2, List.map_append, List.map_cons, List.map_nil] at hn
    rw [spec_l2Opposite.l0, if_pos (by omega), if_pos (by omega), e]
    clear e
    generalize s.data.toList[i] = c at hb hdd hn
    by_cases h46 : c = 46
    · subst h46
      rw [if_pos (hb.2 rfl), if_pos (by omega)]
      exact hn
    · have h45 : c = 45 := by
        simp only [dotDash, Bool.or_eq_true, beq_iff_eq] at hdd
        rcases hdd with q | q
        · exact absurd q h46
        · exact q
      subst h45
      rw [if_neg (fun q => h46 (hb.1 q)), if_pos (by omega)]
      exact hn
theorem l2Opposite_eq (s : ByteArray) (hs : s.size ≤ 1048576) (hd0 : s.data.toList.all dotDash = true) (k : Nat) (hk : s.size < k) : spec_l2Opposite.f k s = some (oppB s) := by
  unfold spec_l2Opposite.f
  exact l2Opposite_l0 s hs hd0 s.size k 0 (by omega) (by omega) hk
theorem goodT_all : ∀ (l seen : List ByteArray), goodT seen l = true → ∀ c ∈ l, c.size ≤ 5 ∧ c.data.toList.all dotDash = true
  | [], _, _ => fun c h => absurd h (by simp)
  | a :: t, seen, h => by
    simp only [goodT, Bool.and_eq_true, Bool.not_eq_true'] at h
    obtain ⟨h1, h2, h3⟩ := h
    intro c hc
    rcases List.mem_cons.1 hc with rfl | hc
    · simp only [isMk, Bool.and_eq_true, decide_eq_true_eq] at h1
      exact ⟨by omega, h1.2⟩
    · exact goodT_all t _ h3 c hc
theorem isTab_all (l : List ByteArray) (h : isTab l = true) : ∀ c ∈ l, c.size ≤ 5 ∧ c.data.toList.all dotDash = true := by
  simp only [isTab, Bool.and_eq_true, decide_eq_true_eq] at h
  exact goodT_all l [] h.2
theorem spec_go (l : List ByteArray) (hl : l.length ≤ 10) (hs : ∀ c ∈ l, c.size ≤ 5 ∧ c.data.toList.all dotDash = true) (d : Nat) : ∀ (k i : Nat), i ≤ l.length → l.length - i = d → d + 1048576 < k → spec_OppositeTable.l0 k (i : Int) l ((l.take i).map oppB) = some (l.map oppB, true) := by
  induction d with
  | zero =>
    intro k i hi hd hk
    obtain ⟨m, rfl⟩ := pred_of_lt hk
    have e : i = l.length := by omega
    subst e
    rw [spec_OppositeTable.l0, if_neg (by omega), List.take_of_length_le (by omega)]
  | succ d ih =>
    intro k i hi hd hk
    obtain ⟨m, rfl⟩ := pred_of_lt hk
    have h2 : i < l.length := by omega
    have e : wrap64 ((i : Int) + 1) = ((i + 1 : Nat) : Int) := by rw [wr (by omega) (by omega)]; rfl
    rw [spec_OppositeTable.l0, if_pos (by omega), if_pos (by omega), rdS_get l i h2, l2Opposite_eq l[i] (by have := (hs _ (List.getElem_mem h2)).1; omega) (hs _ (List.getElem_mem h2)).2 m (by have := (hs _ (List.getElem_mem h2)).1; omega), Option.bind_some,
      if_pos (by rw [List.length_map, List.length_take]; omega), e]
    have e3 : (l.take i).map oppB ++ [oppB l[i]] = (l.take (i + 1)).map oppB := by
      rw [List.take_succ_eq_append_getElem h2, List.map_append]; rfl
    rw [e3]
    exact ih m (i + 1) (by omega) (by omega) (by omega)
theorem impl_go (l : List ByteArray) (hl : l.length ≤ 10) (hs : ∀ c ∈ l, c.size ≤ 5 ∧ c.data.toList.all dotDash = true) (d : Nat) : ∀ (k i : Nat), i ≤ l.length → l.length - i = d → d < k → impl_turned.l0 k l (l.length : Int) (i : Int) ((l.take i).map oppB) = some (l.map oppB, true) := by
  induction d with
  | zero =>
    intro k i hi hd hk
    obtain ⟨m, rfl⟩ := pred_of_lt hk
    have e : i = l.length := by omega
    subst e
    rw [impl_turned.l0, if_neg (by omega), List.take_of_length_le (by omega)]
  | succ d ih =>
    intro k i hi hd hk
    obtain ⟨m, rfl⟩ := pred_of_lt hk
    have h2 : i < l.length := by omega
    have e : wrap64 ((i : Int) + 1) = ((i + 1 : Nat) : Int) := by rw [wr (by omega) (by omega)]; rfl
    have eb : impl_opposite.f l[i] = some (oppB l[i]) := by
      unfold impl_opposite.f
      rw [if_pos (by have := (hs _ (List.getElem_mem h2)).1; omega)]
      rfl
    rw [impl_turned.l0, if_pos (by omega), if_pos (by omega), if_pos (by omega), rdS_get l i h2, eb, Option.bind_some,
      if_pos (by rw [List.length_map, List.length_take]; omega), e]
    have e3 : (l.take i).map oppB ++ [oppB l[i]] = (l.take (i + 1)).map oppB := by
      rw [List.take_succ_eq_append_getElem h2, List.map_append]; rfl
    rw [e3]
    exact ih m (i + 1) (by omega) (by omega) (by omega)
theorem isTab_len (l : List ByteArray) (h : isTab l = true) : l.length ≤ 10 := by
  simp only [isTab, Bool.and_eq_true, decide_eq_true_eq] at h
  omega
theorem FnExactOppositeTable : laws_FnExactOppositeTable.Pure := by
  intro l hl hs
  refine law_OppositeTable l hl hs 4194401 fun h1 h2 => ?_
  by_cases ht : isTab l = true
  · have hl10 := isTab_len l ht
    refine ⟨l.map oppB, true, by rw [List.length_map]; exact h1, fun k hk => ?_⟩
    unfold spec_OppositeTable.f impl_OppositeTable.f impl_turned.f
    rw [l2Table_eq l h1 h2 _ (by omega), isTable_eq l h1 h2 _ (by omega), ht]
    simp only [Option.bind_some, if_true]
    have a := spec_go l hl10 (isTab_all l ht) l.length k 0 (by omega) (by omega) (by omega)
    have b := impl_go l hl10 (isTab_all l ht) l.length k 0 (by omega) (by omega) (by omega)
    rw [List.take_zero, List.map_nil] at a b
    refine ⟨a, ?_⟩
    rw [show ((0 : Nat) : Int) = 0 from rfl] at b
    rw [b]
    rfl
  · refine ⟨[], false, by simp, fun k hk => ?_⟩
    unfold spec_OppositeTable.f impl_OppositeTable.f impl_turned.f
    rw [l2Table_eq l h1 h2 _ (by omega), isTable_eq l h1 h2 _ (by omega), (Bool.not_eq_true _).mp ht]
    simp only [Option.bind_some, Bool.false_eq_true, if_false]
    exact ⟨trivial, trivial⟩

end Go.Proofs.YtpdojionnmehbaaGreatDoor.Pure
