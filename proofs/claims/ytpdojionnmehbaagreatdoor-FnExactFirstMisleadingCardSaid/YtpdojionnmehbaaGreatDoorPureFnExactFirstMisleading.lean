/- FirstMisleading of the program and of the reference answer alike at every table. -/
import Derived.Test.YtpdojionnmehbaaGreatDoorHFnExactFirstMisleadingx8
namespace Go.Proofs.YtpdojionnmehbaaGreatDoor.Pure
open Go.RowKit Go.Proofs.YtpdojionnmehbaaGreatDoor.HFnExactFirstMisleading Go.Proofs.YtpdojionnmehbaaGreatDoorW.PrintWords Go.Proofs.YtpdojionnmehbaaGreatDoorW.PrintLast
set_option linter.unusedVariables false
set_option linter.unusedSimpArgs false
set_option linter.unnecessarySimpa false

theorem wr {i : Int} (h0 : -9223372036854775808 ≤ i) (h1 : i ≤ 9223372036854775807) : wrap64 i = i := by unfold wrap64; omega
theorem rd_nat (xs : List Int) (i : Nat) : rd xs (i : Int) = xs.getD i 0 := by simp [rd]
theorem rd_get (xs : List Int) (i : Nat) (h : i < xs.length) : rd xs (i : Int) = xs[i] := by simp [rd, h]
theorem pred_of_lt {d k : Nat} (h : d < k) : ∃ m, k = m + 1 := ⟨k - 1, by omega⟩
/-! bytes of a text -/
theorem size_data (s : ByteArray) : s.data.toList.length = s.size := Array.length_toList
theorem bt_nat (s : ByteArray) (i : Nat) (h : i < s.size) : bt s (i : Int) = ((s.data.toList[i]'(by rw [size_data]; exact h)).toNat : Int) := by
  have := bt_at s (i : Int) (by simpa using h)
  rw [← this]
  rfl
theorem byte_num (b c : UInt8) (n : Nat) (hc : c.toNat = n) : ((b.toNat : Int) = (n : Int)) ↔ b = c := by
  constructor
  · intro h
    exact UInt8.toNat_inj.1 (by omega)
  · rintro rfl; omega
/-! what is left when bytes of a set are taken off both ends -/
theorem dropWhile_nil {p : UInt8 → Bool} (l : List UInt8) : l.dropWhile p = [] ↔ l.all p = true := by
  induction l with
  | nil => simp
  | cons a l ih =>
    rw [List.dropWhile_cons]
    by_cases h : p a = true
    · rw [if_pos h, ih]; simp [h]
    · rw [if_neg h]; simp [h]
theorem trimS_nil (l cs : List UInt8) : Lib.trimS l cs = [] ↔ l.all (cs.contains ·) = true := by
  unfold Lib.trimS Lib.trimLeftS Lib.trimRightS
  rw [dropWhile_nil]
  constructor
  · intro h
    by_cases hr : (l.reverse.dropWhile (cs.contains ·)) = []
    · rw [dropWhile_nil, List.all_reverse] at hr; exact hr
    · exfalso
      rw [List.all_reverse] at h
      cases hd : l.reverse.dropWhile (cs.contains ·) with
      | nil => exact hr hd
      | cons a t =>
        have ha : cs.contains a = false := by
          have := List.head?_dropWhile_not (cs.contains ·) l.reverse
          rw [hd] at this
          simpa using this
        rw [hd] at h
        simp at h
        rw [List.contains_eq_mem] at ha
        simp [h.1] at ha
  · intro h
    have : (l.reverse.dropWhile (cs.contains ·)) = [] := by
      rw [dropWhile_nil, List.all_reverse]; exact h
    rw [this]; rfl
theorem toList_nil (l : List UInt8) : ((⟨l.toArray⟩ : ByteArray).toList == ([] : List UInt8)) = l.isEmpty := by
  have : (⟨l.toArray⟩ : ByteArray).toList = l := by
    rw [ByteArray.toList_eq]
  rw [this]
  cases l <;> rfl
theorem l1In_eq (a b c : Int) : spec_l1In.f a b c = some (decide (b ≤ a) && decide (a ≤ c)) := by
  unfold spec_l1In.f
  by_cases h : a ≥ b
  · rw [if_pos h]; simp [show b ≤ a from h]
  · rw [if_neg h]; simp [show ¬ b ≤ a from h]
theorem in_eq (a b c : Int) : impl_in.f a b c = some (decide (b ≤ a) && decide (a ≤ c)) := by
  unfold impl_in.f
  by_cases h : a ≥ b
  · rw [if_pos h]; simp [show b ≤ a from h]
  · rw [if_neg h]; simp [show ¬ b ≤ a from h]
/-! lists of texts: their sizes, copies, comparisons -/
theorem rdS_get (xs : List ByteArray) (i : Nat) (h : i < xs.length) : rdOf ByteArray.empty xs (i : Int) = xs[i] := by simp [rdOf, h]
theorem toList_inj (a b : ByteArray) : a.toList = b.toList ↔ a = b := by
  rw [ByteArray.toList_eq, ByteArray.toList_eq]
  constructor
  · intro h; exact ByteArray.ext (Array.toList_inj.1 h)
  · rintro rfl; rfl
theorem szStringS_l0 (l : List ByteArray) (hl : l.length ≤ maxLen) (hs : ∀ s ∈ l, s.size ≤ maxLen) (d : Nat) : ∀ (i : Nat) (left : Int), 0 ≤ left → left ≤ 1048576 → i ≤ l.length → l.length - i = d →
    ∃ t : Int, (∀ k, d < k → laws_szStringS.l0 k l left (i : Int) = some t) ∧ t ≤ left ∧ (0 ≤ t → ∀ j (h : j < l.length), i ≤ j → (l[j].size : Int) ≤ left) := by
  unfold maxLen at hl hs
  induction d with
  | zero =>
    intro i left h0 h1 hi hd
    refine ⟨left, fun k hk => ?_, by omega, fun _ j h hij => by omega⟩
    obtain ⟨k, rfl⟩ := pred_of_lt hk
    simp only [laws_szStringS.l0]; rw [if_neg (by omega)]
  | succ d ih =>
    intro i left h0 h1 hi hd
    have hlt : i < l.length := by omega
    have hsz := hs _ (List.getElem_mem hlt)
    have c1 : (i : Int) < (l.length : Int) := by omega
    have c2 : (0 : Int) ≤ (i : Int) := by omega
    have e1 : wrap64 ((i : Int) + 1) = ((i + 1 : Nat) : Int) := by rw [wr (by omega) (by omega)]; omega
    have e2 : wrap64 (left - (l[i].size : Int)) = left - (l[i].size : Int) := by rw [wr (by omega) (by omega)]
    by_cases hc : left - (l[i].size : Int) < 0
    · refine ⟨-1, fun k hk => ?_, by omega, fun h => by omega⟩
      obtain ⟨k, rfl⟩ := pred_of_lt hk
      simp only [laws_szStringS.l0, c1, c2, if_true, rdS_get l i hlt, e2, hc]
    · obtain ⟨t, ht, h2, h3⟩ := ih (i + 1) (left - (l[i].size : Int)) (by omega) (by omega) (by omega) (by omega)
      refine ⟨t, fun k hk => ?_, by omega, fun h0t j h hij => ?_⟩
      · obtain ⟨k, rfl⟩ := pred_of_lt hk
        simp only [laws_szStringS.l0, c1, c2, if_true, rdS_get l i hlt, e2, hc, if_false, e1]
        exact ht k (by omega)
      · by_cases hji : i = j
        · subst hji; omega
        · have := h3 h0t j h (by omega); omega
theorem szStringS_eq (l : List ByteArray) (hl : l.length ≤ maxLen) (hs : ∀ s ∈ l, s.size ≤ maxLen) : ∃ t : Int, (∀ k, l.length < k → laws_szStringS.f k l 1048576 = some t) ∧ (0 ≤ t → l.length ≤ 1048576 ∧ ∀ s ∈ l, s.size ≤ 1048576) := by
  have hl' := hl
  unfold maxLen at hl'
  have e : wrap64 (1048576 - (l.length : Int)) = 1048576 - (l.length : Int) := by rw [wr (by omega) (by omega)]
  by_cases hc : 1048576 - (l.length : Int) < 0
  · refine ⟨-1, fun k hk => ?_, fun h => by omega⟩
    unfold laws_szStringS.f
    rw [e, if_pos hc]
  · obtain ⟨t, ht, h2, h3⟩ := szStringS_l0 l hl hs l.length 0 (1048576 - (l.length : Int)) (by omega) (by omega) (by omega) (by omega)
    refine ⟨t, fun k hk => ?_, fun h0 => ⟨by omega, fun s hsm => ?_⟩⟩
    · unfold laws_szStringS.f
      rw [e, if_neg hc]
      exact ht k hk
    · obtain ⟨j, hj, rfl⟩ := List.getElem_of_mem hsm
      have := h3 h0 j hj (by omega)
      omega
theorem toStringS_l0 (x0 : List ByteArray) (hx : x0.length ≤ 1048576) (d : Nat) : ∀ (k i : Nat) (x3 : List ByteArray), i ≤ x0.length → x0.length - i = d → d < k → x3.length = x0.length → (∀ j, j < i → x3[j]? = x0[j]?) →
    laws_toStringS.l0 k x0 x3 (i : Int) = some x0 := by
  induction d with
  | zero =>
    intro k i x3 hi hd hk hl ht
    obtain ⟨k, rfl⟩ := pred_of_lt hk
    simp only [laws_toStringS.l0]; rw [if_neg (by omega)]
    refine congrArg some (List.ext_getElem? fun j => ?_)
    by_cases hj : j < i
    · exact ht j hj
    · rw [List.getElem?_eq_none (by omega), List.getElem?_eq_none (by omega)]
  | succ d ih =>
    intro k i x3 hi hd hk hl ht
    obtain ⟨k, rfl⟩ := pred_of_lt hk
    simp only [laws_toStringS.l0]; rw [if_pos (by omega), if_pos (by omega), if_pos (by omega), wr (by omega) (by omega)]
    have e : ((i : Int) + 1) = ((i + 1 : Nat) : Int) := by omega
    rw [e, Int.toNat_natCast, rdS_get x0 i (by omega)]
    refine ih k (i + 1) _ (by omega) (by omega) (by omega) (by simpa using hl) fun j hj => ?_
    rw [List.getElem?_set]
    by_cases hji : i = j
    · subst hji
      simp [show i < x3.length by omega, show i < x0.length by omega]
    · rw [if_neg hji]; exact ht j (by omega)
theorem toStringS_eq (l : List ByteArray) (h : l.length ≤ 1048576) (k : Nat) (hk : l.length < k) : laws_toStringS.f k l = some l := by
  unfold laws_toStringS.f
  rw [if_pos (by omega), if_pos (by omega)]
  exact toStringS_l0 l (by omega) l.length k 0 _ (by omega) (by omega) hk (by simp) (fun j hj => by omega)
theorem eqStringS_l0 (a : List ByteArray) (ha : a.length ≤ 1048576) (d : Nat) : ∀ (k i : Nat), i ≤ a.length → a.length - i = d → d < k → laws_eqStringS.l0 k a a (i : Int) = some true := by
  induction d with
  | zero =>
    intro k i hi hd hk
    obtain ⟨k, rfl⟩ := pred_of_lt hk
    simp only [laws_eqStringS.l0]; rw [if_neg (by omega)]
  | succ d ih =>
    intro k i hi hd hk
    obtain ⟨k, rfl⟩ := pred_of_lt hk
    simp only [laws_eqStringS.l0, if_true]; rw [if_pos (by omega), if_pos (by omega), if_pos (by omega), wr (by omega) (by omega)]
    have e : ((i : Int) + 1) = ((i + 1 : Nat) : Int) := by omega
    rw [e]
    exact ih k (i + 1) (by omega) (by omega) (by omega)
theorem eqStringS_self (a : List ByteArray) (ha : a.length ≤ 1048576) (k : Nat) (hk : a.length < k) : laws_eqStringS.f k a a = some true := by
  unfold laws_eqStringS.f
  rw [if_pos rfl]
  exact eqStringS_l0 a ha a.length k 0 (by omega) (by omega) hk
/-! a table that a law is handed -/
theorem szTable_eq (l : List ByteArray) (hl : l.length ≤ maxLen) (hs : ∀ s ∈ l, s.size ≤ maxLen) : ∃ t : Int, (∀ k, l.length < k → laws_szTable.f k l 1048576 = some t) ∧ (0 ≤ t → l.length ≤ 1048576 ∧ ∀ s ∈ l, s.size ≤ 1048576) := by
  obtain ⟨t, ht, h⟩ := szStringS_eq l hl hs
  by_cases h0 : t < 0
  · refine ⟨-1, fun k hk => ?_, fun h => by omega⟩
    unfold laws_szTable.f
    rw [ht k hk]; simp only [Option.bind_some]; rw [if_pos h0]
  · refine ⟨t, fun k hk => ?_, h⟩
    unfold laws_szTable.f
    rw [ht k hk]; simp only [Option.bind_some]; rw [if_neg h0]
theorem toTable_eq (l : List ByteArray) (h : l.length ≤ 1048576) (k : Nat) (hk : l.length < k) : laws_toTable.f k l = some l := by
  unfold laws_toTable.f; rw [toStringS_eq l h k hk]; rfl
theorem eqTable_self (l : List ByteArray) (h : l.length ≤ 1048576) (k : Nat) (hk : l.length < k) : laws_eqTable.f k l l = some true := by
  unfold laws_eqTable.f; rw [eqStringS_self l h k hk]; rfl
/-! marks, as both sides ask for them -/
def dotDash (b : UInt8) : Bool := b == 46 || b == 45
def isMk (s : ByteArray) (lo hi : Int) : Bool := (decide (lo ≤ (s.size : Int)) && decide ((s.size : Int) ≤ hi)) && s.data.toList.all dotDash
theorem bt_is (s : ByteArray) (i : Nat) (h : i < s.size) (c : UInt8) (n : Int) (hc : (c.toNat : Int) = n) : (bt s (i : Int) = n) ↔ (s.data.toList[i]'(by rw [size_data]; exact h)) = c := by
  rw [bt_nat s i h, ← hc]
  constructor
  · intro e; exact UInt8.toNat_inj.1 (by omega)
  · intro e; rw [e]
theorem l2Marks_l0 (s : ByteArray) (hs : s.size ≤ 1048576) (lo hi : Int) (d : Nat) : ∀ (k i : Nat), i ≤ s.size → s.size - i = d → 2 * d + 1 < k → (s.data.toList.take i).all dotDash = true → spec_l2Marks.l0 k s lo hi (i : Int) = some (isMk s lo hi) := by
  have hsz := size_data s
  induction d with
  | zero =>
    intro k i hi' hd hk ht
    obtain ⟨k, rfl⟩ := pred_of_lt hk
    obtain ⟨k, rfl⟩ : ∃ m, k = m + 1 := ⟨k - 1, by omega⟩
    simp only [spec_l2Marks.l0]; rw [if_neg (by omega)]
    simp only [spec_l2Marks.j1]; rw [if_neg (by simp), l1In_eq]
    rw [List.take_of_length_le (by omega)] at ht
    simp only [Option.bind_some, isMk, ht, Bool.and_true]
  | succ d ih =>
    intro k i hi' hd hk ht
    obtain ⟨k, rfl⟩ := pred_of_lt hk
    obtain ⟨k, rfl⟩ : ∃ m, k = m + 1 := ⟨k - 1, by omega⟩
    have c1 : (i : Int) < (s.size : Int) := by omega
    have c2 : (0 : Int) ≤ (i : Int) := by omega
    have e : wrap64 ((i : Int) + 1) = ((i + 1 : Nat) : Int) := by rw [wr (by omega) (by omega)]; omega
    simp only [spec_l2Marks.l0, c1, if_true, spec_l2Marks.j1]
    by_cases h200 : (i : Int) ≤ hi
    · have hd2 : decide ((i : Int) ≤ hi) = true := by simpa using h200
      simp only [hd2, c2, if_true, e]
      have hlt : i < s.data.toList.length := by omega
      have next : dotDash (s.data.toList[i]) = true → spec_l2Marks.l0 k s lo hi ((i + 1 : Nat) : Int) = some (isMk s lo hi) := fun hb => ih k (i + 1) (by omega) (by omega) (by omega) (by
        rw [List.take_succ_eq_append_getElem hlt, List.all_append, ht]; simp only [List.all_cons, List.all_nil, hb, Bool.and_true])
      by_cases h0 : bt s (i : Int) = 46
      · rw [if_pos h0]
        exact next (by rw [bt_is s i (by omega) 46 46 (by decide)] at h0; rw [h0]; decide)
      · rw [if_neg h0]
        by_cases h1 : bt s (i : Int) = 45
        · rw [if_pos h1]
          exact next (by rw [bt_is s i (by omega) 45 45 (by decide)] at h1; rw [h1]; decide)
        · rw [if_neg h1]
          rw [bt_is s i (by omega) 46 46 (by decide)] at h0
          rw [bt_is s i (by omega) 45 45 (by decide)] at h1
          have hm : s.data.toList[i] ∈ s.data.toList := List.getElem_mem _
          have hf : s.data.toList.all dotDash = false := by
            rw [List.all_eq_false]; exact ⟨_, hm, by simp only [dotDash, Bool.or_eq_true, beq_iff_eq, h0, h1, or_self, not_false_eq_true]⟩
          simp only [isMk, hf, Bool.and_false]
    · have hd2 : decide ((i : Int) ≤ hi) = false := by simpa using h200
      simp only [hd2, Bool.false_eq_true, if_false]
      have hn : decide ((s.size : Int) ≤ hi) = false := by simp; omega
      rw [l1In_eq]
      simp only [Option.bind_some, isMk, hn, Bool.and_false, Bool.false_and]
theorem l2Marks_eq (s : ByteArray) (hs : s.size ≤ 1048576) (lo hi : Int) (k : Nat) (hk : 2 * s.size + 1 < k) : spec_l2Marks.f k s lo hi = some (isMk s lo hi) := by
  unfold spec_l2Marks.f
  exact l2Marks_l0 s hs lo hi s.size k 0 (by omega) (by omega) hk (by simp)
theorem areMarks_eq (s : ByteArray) (hs : s.size ≤ 1048576) (lo hi : Int) : impl_areMarks.f s lo hi = some (isMk s lo hi) := by
  unfold impl_areMarks.f
  rw [in_eq]
  simp only [Option.bind_some]
  by_cases h : (decide (lo ≤ (s.size : Int)) && decide ((s.size : Int) ≤ hi)) = true
  · rw [if_pos h]
    unfold strings_Trim.f
    rw [if_pos (by omega), if_pos (by decide), if_pos (by decide)]
    simp only [Option.bind_some]
    rw [toList_nil]
    have e : (Lib.trimS s.data.toList [46, 45]).isEmpty = s.data.toList.all dotDash := by
      rw [Bool.eq_iff_iff, List.isEmpty_iff, trimS_nil]
      have : (fun x => [46, 45].contains x) = dotDash := by
        funext x
        simp [dotDash, List.contains_eq_mem]
        rfl
      rw [this]
    show some (Lib.trimS s.data.toList [46, 45]).isEmpty = _
    rw [e]
    simp only [isMk, h, Bool.true_and]
  · rw [if_neg h]
    simp only [isMk, (Bool.not_eq_true _).mp h, Bool.false_and]
theorem in_eq' (a b c : Int) : impl_in.f a b c = some (decide (b ≤ a) && decide (a ≤ c)) := in_eq a b c
/-! a table, as both sides ask for it -/
def has (l : List ByteArray) (a : ByteArray) : Bool := l.any fun b => a.toList == b.toList
def goodT : List ByteArray → List ByteArray → Bool
  | _, [] => true
  | seen, a :: t => isMk a 1 5 && (!has seen a && goodT (seen ++ [a]) t)
def isTab (l : List ByteArray) : Bool := (decide (1 ≤ (l.length : Int)) && decide ((l.length : Int) ≤ 10)) && goodT [] l
theorem take_snoc {α : Type} (l : List α) (i : Nat) (h : i < l.length) : l.take (i + 1) = l.take i ++ [l[i]] := List.take_succ_eq_append_getElem h
theorem drop_cons {α : Type} (l : List α) (i : Nat) (h : i < l.length) : l.drop i = l[i] :: l.drop (i + 1) := List.drop_eq_getElem_cons h
theorem has_take (l : List ByteArray) (a : ByteArray) (i : Nat) (h : i < l.length) : has (l.take (i + 1)) a = (has (l.take i) a || (a.toList == l[i].toList)) := by
  unfold has
  rw [take_snoc l i h, List.any_append]; simp only [List.any_cons, List.any_nil, Bool.or_false]
/-- where a text stands in a list first, or -1 -/
def placeN (l : List ByteArray) (a : ByteArray) : Int := match l.findIdx? (fun b => a.toList == b.toList) with
  | some i => (i : Int)
  | none => -1
theorem place_hit (l : List ByteArray) (a : ByteArray) (i : Nat) (hi : i < l.length) (h1 : has (l.take i) a = false) (h2 : a.toList = l[i].toList) : placeN l a = (i : Int) := by
  unfold placeN
  have : l.findIdx? (fun b => a.toList == b.toList) = some i := by
    rw [List.findIdx?_eq_some_iff_getElem]
    refine ⟨hi, by simpa using h2, fun j hj => ?_⟩
    intro hc
    have hm : l[j] ∈ l.take i := by
      rw [List.mem_take_iff_getElem]
      exact ⟨j, by omega, rfl⟩
    have ht : has (l.take i) a = true := List.any_eq_true.2 ⟨_, hm, hc⟩
    rw [h1] at ht; cases ht
  rw [this]
theorem place_none (l : List ByteArray) (a : ByteArray) (h : has l a = false) : placeN l a = -1 := by
  unfold placeN
  have : l.findIdx? (fun b => a.toList == b.toList) = none := by
    rw [List.findIdx?_eq_none_iff]
    intro x hx
    have := List.any_eq_false.1 h x hx
    simpa using this
  rw [this]
theorem l2Place_l0 (l : List ByteArray) (hl : l.length ≤ 1048576) (a : ByteArray) (d : Nat) : ∀ (k i : Nat), i ≤ l.length → l.length - i = d → d < k → has (l.take i) a = false → spec_l2Place.l0 k l a (i : Int) = some (placeN l a) := by
  induction d with
  | zero =>
    intro k i hi hd hk ht
    obtain ⟨k, rfl⟩ := pred_of_lt hk
    simp only [spec_l2Place.l0]; rw [if_neg (by omega)]
    rw [List.take_of_length_le (by omega)] at ht
    rw [place_none l a ht]
  | succ d ih =>
    intro k i hi hd hk ht
    obtain ⟨k, rfl⟩ := pred_of_lt hk
    have hlt : i < l.length := by omega
    simp only [spec_l2Place.l0]; rw [if_pos (by omega), if_pos (by omega), rdS_get l i hlt]
    by_cases hc : l[i].toList = a.toList
    · rw [if_pos hc, place_hit l a i hlt ht hc.symm]
    · rw [if_neg hc, wr (by omega) (by omega)]
      have e : ((i : Int) + 1) = ((i + 1 : Nat) : Int) := by omega
      rw [e]
      refine ih k (i + 1) (by omega) (by omega) (by omega) ?_
      rw [has_take l a i hlt, ht, Bool.false_or, beq_eq_false_iff_ne]
      exact fun e => hc e.symm
theorem l2Place_eq (l : List ByteArray) (hl : l.length ≤ 1048576) (a : ByteArray) (k : Nat) (hk : l.length < k) : spec_l2Place.f k l a = some (placeN l a) := by
  unfold spec_l2Place.f
  exact l2Place_l0 l hl a l.length k 0 (by omega) (by omega) hk (by simp [has])
theorem sIndex_l0 (l : List ByteArray) (hl : l.length ≤ 1048576) (a : ByteArray) (d : Nat) : ∀ (k i : Nat), i ≤ l.length → l.length - i = d → d < k → has (l.take i) a = false → slices_Index_string_string.l0 k l a (l.length : Int) (i : Int) = some (placeN l a) := by
  induction d with
  | zero =>
    intro k i hi hd hk ht
    obtain ⟨k, rfl⟩ := pred_of_lt hk
    simp only [slices_Index_string_string.l0]; rw [if_neg (by omega)]
    rw [List.take_of_length_le (by omega)] at ht
    rw [place_none l a ht]
  | succ d ih =>
    intro k i hi hd hk ht
    obtain ⟨k, rfl⟩ := pred_of_lt hk
    have hlt : i < l.length := by omega
    simp only [slices_Index_string_string.l0]; rw [if_pos (by omega), if_pos (by omega), if_pos (by omega), rdS_get l i hlt]
    by_cases hc : a.toList = l[i].toList
    · rw [if_pos hc, place_hit l a i hlt ht hc]
    · rw [if_neg hc, wr (by omega) (by omega)]
      have e : ((i : Int) + 1) = ((i + 1 : Nat) : Int) := by omega
      rw [e]
      refine ih k (i + 1) (by omega) (by omega) (by omega) ?_
      rw [has_take l a i hlt, ht, Bool.false_or, beq_eq_false_iff_ne]
      exact hc
theorem sIndex_eq (l : List ByteArray) (hl : l.length ≤ 1048576) (a : ByteArray) (k : Nat) (hk : l.length < k) : slices_Index_string_string.f k l a = some (placeN l a) := by
  unfold slices_Index_string_string.f
  exact sIndex_l0 l hl a l.length k 0 (by omega) (by omega) hk (by simp [has])
theorem place_has (l : List ByteArray) (a : ByteArray) : decide (placeN l a ≥ 0) = has l a := by
  by_cases h : has l a = true
  · obtain ⟨x, hx, hb⟩ := List.any_eq_true.1 h
    unfold placeN
    cases hf : l.findIdx? (fun b => a.toList == b.toList) with
    | none =>
      have := List.findIdx?_eq_none_iff.1 hf x hx
      rw [hb] at this; cases this
    | some i => rw [h]; simp
  · rw [place_none l a ((Bool.not_eq_true _).mp h), (Bool.not_eq_true _).mp h]; decide
theorem sContains_eq (l : List ByteArray) (hl : l.length ≤ 1048576) (a : ByteArray) (k : Nat) (hk : l.length < k) : slices_Contains_string_string.f k l a = some (has l a) := by
  unfold slices_Contains_string_string.f
  rw [sIndex_eq l hl a k hk]
  simp only [Option.bind_some]
  rw [place_has]
theorem place_self (l : List ByteArray) (i : Nat) (hi : i < l.length) : (placeN l l[i] = (i : Int)) ↔ has (l.take i) l[i] = false := by
  constructor
  · intro h
    by_cases hc : has (l.take i) l[i] = true
    · exfalso
      obtain ⟨x, hx, hb⟩ := List.any_eq_true.1 hc
      obtain ⟨j, hj, rfl⟩ := List.getElem_of_mem hx
      rw [List.length_take] at hj
      unfold placeN at h
      cases hf : l.findIdx? (fun b => l[i].toList == b.toList) with
      | none => rw [hf] at h; simp at h
      | some m =>
        rw [hf] at h
        have hm : m = i := by
          have h' : (m : Int) = (i : Int) := h
          omega
        subst hm
        have := (List.findIdx?_eq_some_iff_getElem.1 hf).2.2 j (by omega)
        rw [List.getElem_take] at hb
        exact this hb
    · exact (Bool.not_eq_true _).mp hc
  · intro h
    exact place_hit l l[i] i hi h rfl
theorem l2Table_l0 (l : List ByteArray) (hl : l.length ≤ 1048576) (hs : ∀ s ∈ l, s.size ≤ 1048576) (M : Nat) (hM : l.length + 2097160 ≤ M) (d : Nat) : ∀ (k i : Nat), i ≤ l.length → l.length - i = d → M + d < k → spec_l2Table.l0 k (i : Int) l = some (goodT (l.take i) (l.drop i)) := by
  induction d with
  | zero =>
    intro k i hi hd hk
    obtain ⟨k, rfl⟩ := pred_of_lt hk
    simp only [spec_l2Table.l0]; rw [if_neg (by omega), List.drop_eq_nil_of_le (by omega)]
    simp [goodT]
  | succ d ih =>
    intro k i hi hd hk
    obtain ⟨k, rfl⟩ := pred_of_lt hk
    have hlt : i < l.length := by omega
    have hz := hs _ (List.getElem_mem hlt)
    rw [drop_cons l i hlt]
    simp only [spec_l2Table.l0]; rw [if_pos (by omega), if_pos (by omega), rdS_get l i hlt, l2Marks_eq _ hz 1 5 k (by omega), l2Place_eq l hl _ k (by omega)]
    simp only [Option.bind_some, goodT]
    by_cases h1 : isMk l[i] 1 5 = true
    · rw [if_pos h1, h1, Bool.true_and]
      by_cases h2 : placeN l l[i] = (i : Int)
      · rw [if_pos h2, (place_self l i hlt).1 h2, wr (by omega) (by omega)]
        have e : ((i : Int) + 1) = ((i + 1 : Nat) : Int) := by omega
        rw [e, ih k (i + 1) (by omega) (by omega) (by omega), take_snoc l i hlt]
        simp
      · rw [if_neg h2]
        have : has (l.take i) l[i] = true := by
          by_cases hc : has (l.take i) l[i] = true
          · exact hc
          · exact absurd ((place_self l i hlt).2 ((Bool.not_eq_true _).mp hc)) h2
        rw [this]; simp
    · rw [if_neg h1, (Bool.not_eq_true _).mp h1]; simp
theorem l2Table_eq (l : List ByteArray) (hl : l.length ≤ 1048576) (hs : ∀ s ∈ l, s.size ≤ 1048576) (k : Nat) (hk : 4194400 ≤ k) : spec_l2Table.f k l = some (isTab l) := by
  unfold spec_l2Table.f
  rw [l1In_eq]
  simp only [Option.bind_some]
  by_cases h : (decide (1 ≤ (l.length : Int)) && decide ((l.length : Int) ≤ 10)) = true
  · rw [if_pos h]
    have h10 : l.length ≤ 10 := by simp only [Bool.and_eq_true, decide_eq_true_eq] at h; omega
    have := l2Table_l0 l hl hs (l.length + 2097160) (by omega) l.length k 0 (by omega) (by omega) (by omega)
    rw [List.take_zero, List.drop_zero] at this
    simp only [isTab, h, Bool.true_and]
    exact this
  · rw [if_neg h]; simp only [isTab, (Bool.not_eq_true _).mp h, Bool.false_and]
theorem isLetterMarks_eq (s : ByteArray) (hs : s.size ≤ 1048576) : impl_isLetterMarks.f s = some (isMk s 1 5) := by
  unfold impl_isLetterMarks.f
  rw [areMarks_eq s hs]; rfl
theorem isTable_l0 (l : List ByteArray) (hl : l.length ≤ 1048576) (hs : ∀ s ∈ l, s.size ≤ 1048576) (d : Nat) : ∀ (k i : Nat), i ≤ l.length → l.length - i = d → l.length + d < k →
    impl_isTable.l0 k l (l.length : Int) (i : Int) l = some (goodT (l.take i) (l.drop i) && (decide (1 ≤ (l.length : Int)) && decide ((l.length : Int) ≤ 10))) := by
  induction d with
  | zero =>
    intro k i hi hd hk
    obtain ⟨k, rfl⟩ := pred_of_lt hk
    simp only [impl_isTable.l0]; rw [if_neg (by omega), List.drop_eq_nil_of_le (by omega), in_eq]
    simp [goodT]
  | succ d ih =>
    intro k i hi hd hk
    obtain ⟨k, rfl⟩ := pred_of_lt hk
    have hlt : i < l.length := by omega
    have hz := hs _ (List.getElem_mem hlt)
    have c1 : (i : Int) ≤ (l.length : Int) := by omega
    rw [drop_cons l i hlt]
    simp only [impl_isTable.l0]; rw [if_pos (by omega), if_pos (by omega), if_pos (by omega), rdS_get l i hlt, isLetterMarks_eq _ hz]
    simp only [Option.bind_some, goodT]
    by_cases h1 : isMk l[i] 1 5 = true
    · rw [if_pos h1, h1, Bool.true_and, if_pos c1, Int.toNat_natCast, sContains_eq _ (by rw [List.length_take]; omega) _ k (by rw [List.length_take]; omega)]
      simp only [Option.bind_some]
      by_cases h2 : has (l.take i) l[i] = true
      · rw [if_pos h2, h2]; simp
      · rw [if_neg h2, (Bool.not_eq_true _).mp h2, wr (by omega) (by omega)]
        have e : ((i : Int) + 1) = ((i + 1 : Nat) : Int) := by omega
        rw [e, ih k (i + 1) (by omega) (by omega) (by omega), take_snoc l i hlt]
        simp
    · rw [if_neg h1, (Bool.not_eq_true _).mp h1]; simp
theorem isTable_eq (l : List ByteArray) (hl : l.length ≤ 1048576) (hs : ∀ s ∈ l, s.size ≤ 1048576) (k : Nat) (hk : 4194400 ≤ k) : impl_isTable.f k l = some (isTab l) := by
  unfold impl_isTable.f
  have := isTable_l0 l hl hs l.length k 0 (by omega) (by omega) (by omega)
  rw [List.take_zero, List.drop_zero] at this
  rw [show isTab l = (goodT [] l && (decide (1 ≤ (l.length : Int)) && decide ((l.length : Int) ≤ 10))) from Bool.and_comm _ _]
  exact this
theorem goodT_mk : ∀ (l seen : List ByteArray), goodT seen l = true → ∀ c ∈ l, isMk c 1 5 = true
  | [], _, _, c, h => by cases h
  | a :: t, seen, h, c, hc => by
    simp only [goodT, Bool.and_eq_true] at h
    rcases List.mem_cons.1 hc with rfl | hc
    · exact h.1
    · exact goodT_mk t _ h.2.2 c hc
/-! from some fuel on one function goes on as another does -/
def Lead {α : Type} (A B : Nat → α) : Prop := ∀ K, ∃ K', ∀ k, K' ≤ k → ∃ k', K ≤ k' ∧ A k = B k'
def Ends {α : Type} (A : Nat → Option α) (R : α) : Prop := ∃ K, ∀ k, K ≤ k → A k = some R
theorem Lead.refl {α : Type} (A : Nat → α) : Lead A A := fun K => ⟨K, fun k hk => ⟨k, hk, rfl⟩⟩
theorem Lead.trans {α : Type} {A B C : Nat → α} (h : Lead A B) (h' : Lead B C) : Lead A C := fun K => by
  obtain ⟨K1, h1⟩ := h' K
  obtain ⟨K2, h2⟩ := h K1
  refine ⟨K2, fun k hk => ?_⟩
  obtain ⟨k1, l1, e1⟩ := h2 k hk
  obtain ⟨k2, l2, e2⟩ := h1 k1 l1
  exact ⟨k2, l2, e1.trans e2⟩
theorem Lead.step {α : Type} {A B : Nat → α} (C : Nat) (h : ∀ k, C ≤ k → A (k + 1) = B k) : Lead A B := fun K => ⟨K + C + 1, fun k hk => by
  obtain ⟨k, rfl⟩ : ∃ j, k = j + 1 := ⟨k - 1, by omega⟩
  exact ⟨k, by omega, h k (by omega)⟩⟩
theorem Lead.ends {α : Type} {A B : Nat → Option α} {R : α} (h : Lead A B) (h' : Ends B R) : Ends A R := by
  obtain ⟨K, hK⟩ := h'
  obtain ⟨K2, h2⟩ := h K
  refine ⟨K2, fun k hk => ?_⟩
  obtain ⟨k1, l1, e1⟩ := h2 k hk
  rw [e1]; exact hK k1 l1
open impl_misleading (code gen dd bad nxt upd cnt phi Q8 Q10 ok sfx inits initAt ext)
/-! comparing, placing -/
def lx : List UInt8 → List UInt8 → Bool
  | c :: x, d :: y => if c = d then lx x y else c == 46
  | _, _ => false
theorem lx_gen : ∀ (x y : List UInt8) (n : Nat), x.length = y.length → dd x = true → dd y = true → lx x y = decide (gen n x < gen n y)
  | [], [], n, _, _, _ => by simp [lx, gen]
  | [], _ :: _, _, h, _, _ => by simp at h
  | _ :: _, [], _, h, _, _ => by simp at h
  | c :: x, d :: y, n, hl, hx, hy => by
    have hl' : x.length = y.length := by simpa using hl
    simp only [dd, List.all_cons, Bool.and_eq_true, Bool.or_eq_true, beq_iff_eq] at hx hy
    have h1 := impl_misleading.gen_lo x
    have h2 := impl_misleading.gen_hi x
    have h3 := impl_misleading.gen_lo y
    have h4 := impl_misleading.gen_hi y
    rw [impl_misleading.gen_cons, impl_misleading.gen_cons]
    rcases hx.1 with rfl | rfl <;> rcases hy.1 with rfl | rfl
    · rw [← lx_gen x y _ hl' hx.2 hy.2]; simp [lx]
    · have g1 := h2 (2 * n)
      have g2 := h3 (2 * n + 1)
      rw [hl'] at g1
      rw [decide_eq_true (show gen (2 * n + if (46 : UInt8) = 46 then 0 else 1) x < gen (2 * n + if (45 : UInt8) = 46 then 0 else 1) y from Nat.lt_of_lt_of_le g1 g2)]
      rfl
    · have g1 := h4 (2 * n)
      have g2 := h1 (2 * n + 1)
      rw [hl'] at g2
      rw [decide_eq_false (show ¬ gen (2 * n + if (45 : UInt8) = 46 then 0 else 1) x < gen (2 * n + if (46 : UInt8) = 46 then 0 else 1) y from Nat.not_lt.2 (Nat.le_of_lt (Nat.lt_of_lt_of_le g1 g2)))]
      rfl
    · rw [← lx_gen x y _ hl' hx.2 hy.2]; simp [lx]
theorem before_l0 (a b : ByteArray) (ha : a.size ≤ 1000) (hb : a.size = b.size) (d : Nat) : ∀ (k i : Nat), i ≤ a.size → a.size - i = d → d < k → spec_l3Before.l0 k a b (i : Int) = some (lx (a.data.toList.drop i) (b.data.toList.drop i)) := by
  have ea := size_data a
  have eb := size_data b
  induction d with
  | zero =>
    intro k i hi hd hk
    obtain ⟨k, rfl⟩ := pred_of_lt hk
    simp only [spec_l3Before.l0]
    rw [if_neg (by omega), List.drop_eq_nil_of_le (by omega)]
    rfl
  | succ d ih =>
    intro k i hi hd hk
    obtain ⟨k, rfl⟩ := pred_of_lt hk
    have n := ih k (i + 1) (by omega) (by omega) (by omega)
    have e1 : wrap64 ((i : Int) + 1) = ((i + 1 : Nat) : Int) := by rw [wr (by omega) (by omega)]; omega
    simp only [spec_l3Before.l0, e1]
    rw [if_pos (by omega), if_pos (by omega), if_pos (by omega), bt_nat a i (by omega), bt_nat b i (by omega), n]
    rw [List.drop_eq_getElem_cons (show i < a.data.toList.length by omega), List.drop_eq_getElem_cons (show i < b.data.toList.length by omega)]
    simp only [lx]
    generalize a.data.toList[i] = c
    generalize b.data.toList[i] = e
    by_cases h : c = e
    · rw [if_pos h, if_pos (by rw [h])]
    · have h2 : ¬ ((c.toNat : Int) = (e.toNat : Int)) := fun q => h (UInt8.toNat_inj.1 (by omega))
      rw [if_neg h, if_neg h2]
      congr 1
      have := byte_num c 46 46 rfl
      rw [Bool.eq_iff_iff, beq_iff_eq, beq_iff_eq]
      exact this
theorem before_eq (a b : ByteArray) (ha : a.size ≤ 1000) (da : dd a.data.toList = true) (db : dd b.data.toList = true) (k : Nat) (hk : 1000 < k) : spec_l3Before.f k a b = some (decide (code a.data.toList < code b.data.toList)) := by
  have ea := size_data a
  have eb := size_data b
  unfold spec_l3Before.f
  by_cases h : a.size = b.size
  · have := before_l0 a b ha h a.size k 0 (by omega) (by omega) (by omega)
    rw [List.drop_zero, List.drop_zero, lx_gen _ _ 1 (by omega) da db] at this
    rw [if_pos (by omega)]
    exact this
  · rw [if_neg (by omega)]
    by_cases hl : a.size < b.size
    · rw [decide_eq_true (show (a.size : Int) < (b.size : Int) by omega), decide_eq_true (impl_misleading.code_short (by omega))]
    · have := impl_misleading.code_short (x := b.data.toList) (y := a.data.toList) (by omega)
      rw [decide_eq_false (show ¬ (a.size : Int) < (b.size : Int) by omega), decide_eq_false (by omega)]
theorem begins_eq (b a : ByteArray) : spec_l3Begins.f b a = some (a.data.toList.isPrefixOf b.data.toList) := by
  have eb := size_data b
  have ea := size_data a
  have hp : (a.data.toList.isPrefixOf b.data.toList) = decide (a.data.toList = b.data.toList.take a.size) := by
    rw [Bool.eq_iff_iff, List.isPrefixOf_iff_prefix, List.prefix_iff_eq_take, ea, decide_eq_true_eq]
  have ht : (b.extract 0 a.size).toList = b.data.toList.take a.size := by
    rw [ByteArray.toList_eq, ByteArray.data_extract, Array.toList_extract, List.extract_eq_take_drop]
    simp
  simp only [spec_l3Begins.f, Int.toNat_natCast]
  rw [hp]
  by_cases h : a.size ≤ b.size
  · rw [if_pos (by omega), if_pos (by omega), if_pos (by omega), ht, ByteArray.toList_eq]
    congr 1
    rw [Bool.eq_iff_iff, beq_iff_eq, decide_eq_true_eq]
    exact eq_comm
  · rw [if_neg (by omega), decide_eq_false]
    intro e
    have := congrArg List.length e
    rw [List.length_take] at this
    omega
/-! the two lists as one look-up -/
def lk : List ByteArray → List ByteArray → List UInt8 → Option (List UInt8)
  | t :: ts, x :: xs, r => if t.data.toList = r then some x.data.toList else lk ts xs r
  | _, _, _ => none
theorem lk_find (a : ByteArray) : ∀ (ts xs : List ByteArray), ts.length = xs.length → match ts.findIdx? (fun b => a.toList == b.toList) with
    | none => lk ts xs a.data.toList = none ∧ ∀ t ∈ ts, t.data.toList ≠ a.data.toList
    | some i => ∃ (h : i < ts.length) (h' : i < xs.length), lk ts xs a.data.toList = some (xs[i].data.toList) ∧ ∀ y, lk ts (xs.set i y) = upd (lk ts xs) a.data.toList y.data.toList
  | [], [], _ => by simp [lk]
  | [], _ :: _, h => by simp at h
  | _ :: _, [], h => by simp at h
  | t :: ts, x :: xs, h => by
    have ih := lk_find a ts xs (by simpa using h)
    rw [List.findIdx?_cons]
    by_cases e : t.data.toList = a.data.toList
    · have hb : (a.toList == t.toList) = true := by rw [ByteArray.toList_eq, ByteArray.toList_eq, e]; simp
      simp only [hb, if_true]
      refine ⟨by simp, by simp, by simp [lk, e], fun y => ?_⟩
      funext r
      simp only [List.set_cons_zero, lk, upd]
      by_cases hr : r = a.data.toList
      · rw [if_pos (by rw [e, hr]), if_pos hr]
      · rw [if_neg (by rw [e]; exact fun q => hr q.symm), if_neg hr, if_neg (by rw [e]; exact fun q => hr q.symm)]
    · have hb : (a.toList == t.toList) = false := by
        rw [ByteArray.toList_eq, ByteArray.toList_eq, beq_eq_false_iff_ne]; exact fun q => e q.symm
      simp only [hb, Bool.false_eq_true, if_false]
      cases hf : ts.findIdx? (fun b => a.toList == b.toList) with
      | none =>
        rw [hf] at ih
        simp only [Option.map_none]
        refine ⟨by simp only [lk]; rw [if_neg e]; exact ih.1, fun u hu => ?_⟩
        rcases List.mem_cons.1 hu with rfl | hu
        · exact e
        · exact ih.2 u hu
      | some i =>
        rw [hf] at ih
        obtain ⟨h1, h2, h3, h4⟩ := ih
        simp only [Option.map_some]
        refine ⟨by simpa using h1, by simpa using h2, by simp only [lk]; rw [if_neg e]; simpa using h3, fun y => ?_⟩
        funext r
        simp only [List.set_cons_succ, lk, h4 y, upd]
        by_cases hr : r = a.data.toList
        · rw [hr]; simp [e]
        · simp [hr]
theorem lk_app (t x : ByteArray) : ∀ (ts xs : List ByteArray), ts.length = xs.length → (∀ u ∈ ts, u.data.toList ≠ t.data.toList) → lk (ts ++ [t]) (xs ++ [x]) = upd (lk ts xs) t.data.toList x.data.toList
  | [], [], _, _ => by
    funext r
    simp only [List.nil_append, lk, upd]
    by_cases h : r = t.data.toList
    · rw [if_pos h.symm, if_pos h]
    · rw [if_neg (fun q => h q.symm), if_neg h]
  | [], _ :: _, h, _ => by simp at h
  | _ :: _, [], h, _ => by simp at h
  | u :: ts, y :: xs, h, hu => by
    have ih := lk_app t x ts xs (by simpa using h) fun v hv => hu v (List.mem_cons_of_mem _ hv)
    funext r
    simp only [List.cons_append, lk, ih, upd]
    by_cases hr : r = t.data.toList
    · rw [hr]; simp [hu u (List.mem_cons_self ..)]
    · simp [hr]
theorem lk_at : ∀ (ts xs : List ByteArray), ts.length = xs.length → (ts.map (·.data.toList)).Nodup → ∀ (i : Nat) (h : i < ts.length) (h' : i < xs.length), lk ts xs (ts[i].data.toList) = some (xs[i].data.toList)
  | [], _, _, _, i, h, _ => by simp at h
  | _ :: _, [], h, _, _, _, _ => by simp at h
  | t :: ts, x :: xs, h, hn, 0, _, _ => by simp [lk]
  | t :: ts, x :: xs, h, hn, i + 1, h1, h2 => by
    rw [List.map_cons, List.nodup_cons] at hn
    have ih := lk_at ts xs (by simpa using h) hn.2 i (by simpa using h1) (by simpa using h2)
    simp only [List.getElem_cons_succ, lk]
    rw [if_neg, ih]
    intro e
    exact hn.1 (by rw [e]; exact List.mem_map.2 ⟨_, List.getElem_mem _, rfl⟩)
theorem lk_mem : ∀ (ts xs : List ByteArray) (r : List UInt8), (lk ts xs r).isSome = true → ∃ t ∈ ts, t.data.toList = r
  | [], _, _, h => by simp [lk] at h
  | _ :: _, [], _, h => by simp [lk] at h
  | t :: ts, x :: xs, r, h => by
    simp only [lk] at h
    by_cases e : t.data.toList = r
    · exact ⟨t, List.mem_cons_self .., e⟩
    · rw [if_neg e] at h
      obtain ⟨u, hu, e'⟩ := lk_mem ts xs r h
      exact ⟨u, List.mem_cons_of_mem _ hu, e'⟩
/-- the reference's two lists say what m says -/
structure SI (T tails texts : List ByteArray) (m : List UInt8 → Option (List UInt8)) : Prop where
  len : tails.length = texts.length
  look : lk tails texts = m
  good : impl_misleading.Good T m
  few : tails.length ≤ cnt T m
  nd : (tails.map (·.data.toList)).Nodup
theorem put_ok {T : List ByteArray} (hT : ok T = true) {tails texts : List ByteArray} {m : List UInt8 → Option (List UInt8)} (S : SI T tails texts m) (s x : ByteArray) {p : List UInt8 × List UInt8} (hp : p = (s.data.toList, x.data.toList)) (hr : impl_misleading.Reach T p.1 p.2) (hl : p.2.length ≤ 10 + 5 * cnt T m) (g : Bool) :
    ∃ tails' texts', (∀ k, 1100 < k → spec_l3Put.f k tails texts g s x = some (tails', texts', bad m p || g)) ∧ SI T tails' texts' (nxt m p) ∧ tails <+: tails' := by
  subst hp
  have h60 := impl_misleading.cnt_le hT m
  have hc := S.few
  have ex := size_data x
  have hg := impl_misleading.nxt_good hT S.good hr hl
  have dx := (impl_misleading.reach_ok hT hr).2
  simp only at hl dx
  have hf := lk_find s tails texts S.len
  rw [S.look] at hf
  have hpl : ∀ k, 1100 < k → spec_l2Place.f k tails s = some (placeN tails s) := fun k hk => l2Place_eq tails (by omega) s k (by omega)
  have hpn : placeN tails s = match tails.findIdx? (fun b => s.toList == b.toList) with
    | some i => (i : Int)
    | none => -1 := rfl
  cases e : tails.findIdx? (fun b => s.toList == b.toList) with
  | none =>
    rw [e] at hf hpn
    obtain ⟨h1, h2⟩ := hf
    have hb : bad m (s.data.toList, x.data.toList) = true := by unfold impl_misleading.bad; rw [h1]
    have hn : nxt m (s.data.toList, x.data.toList) = upd m s.data.toList x.data.toList := if_pos hb
    have hcn := (impl_misleading.put_good hT S.good hr hl hb).2.2.2
    rw [if_pos h1] at hcn
    refine ⟨tails ++ [s], texts ++ [x], fun k hk => ?_, ⟨by rw [List.length_append, List.length_append, S.len]; rfl, ?_, hg.1, ?_, ?_⟩, List.prefix_append _ _⟩
    · unfold spec_l3Put.f
      rw [hpl k hk, hpn, hb]
      simp only [Option.bind_some]
      rw [if_pos (by omega), if_pos (by omega), if_pos (by have := S.len; omega)]
      rfl
    · rw [lk_app s x tails texts S.len h2, S.look, hn]
    · rw [List.length_append, List.length_singleton, hn]
      simp only at hcn
      omega
    · rw [List.map_append, List.nodup_append]
      refine ⟨S.nd, by simp, fun a ha b hb => ?_⟩
      obtain ⟨t, ht, rfl⟩ := List.mem_map.1 ha
      obtain rfl : b = s.data.toList := by simpa using hb
      exact h2 t ht
  | some i =>
    rw [e] at hf hpn
    obtain ⟨h1, h2, h3, h4⟩ := hf
    have hdy := (impl_misleading.reach_ok hT (S.good.sound _ _ h3)).2
    have hrd : rdOf ByteArray.empty texts (i : Int) = texts[i] := rdS_get texts i h2
    have hbf : ∀ k, 1100 < k → spec_l3Before.f k x texts[i] = some (decide (code x.data.toList < code texts[i].data.toList)) := fun k hk => before_eq x texts[i] (by omega) dx hdy k (by omega)
    by_cases hlt : code x.data.toList < code texts[i].data.toList
    · have hb : bad m (s.data.toList, x.data.toList) = true := by unfold impl_misleading.bad; rw [h3]; exact decide_eq_true hlt
      have hn : nxt m (s.data.toList, x.data.toList) = upd m s.data.toList x.data.toList := if_pos hb
      have hcn := (impl_misleading.put_good hT S.good hr hl hb).2.2.2
      refine ⟨tails, texts.set i x, fun k hk => ?_, ⟨by rw [List.length_set]; exact S.len, by rw [h4, hn], hg.1, ?_, S.nd⟩, List.prefix_refl _⟩
      · unfold spec_l3Put.f
        rw [hpl k hk, hpn, hb]
        simp only [Option.bind_some]
        rw [if_neg (by omega), if_pos (by omega), if_pos (by omega), hrd, hbf k hk, decide_eq_true hlt]
        simp only [Option.bind_some, if_true, Int.toNat_natCast]
        rfl
      · rw [hn]
        simp only at hcn
        omega
    · have hb : bad m (s.data.toList, x.data.toList) = false := by unfold impl_misleading.bad; rw [h3]; exact decide_eq_false hlt
      have hn : nxt m (s.data.toList, x.data.toList) = m := if_neg (by rw [hb]; simp)
      refine ⟨tails, texts, fun k hk => ?_, by rw [hn]; exact S, List.prefix_refl _⟩
      unfold spec_l3Put.f
      rw [hpl k hk, hpn, hb]
      simp only [Option.bind_some]
      rw [if_neg (by omega), if_pos (by omega), if_pos (by omega), hrd, hbf k hk, decide_eq_false hlt]
      simp
/-! one sweep over the list -/
theorem Q8_pre {T tails tails' : List ByteArray} {m1 : List UInt8 → Option (List UInt8)} {i : Nat} (hp : tails <+: tails') (hi : i ≤ tails.length) (p : List UInt8 × List UInt8) (h : Q8 T tails' m1 i p) : Q8 T tails m1 i p := by
  obtain ⟨k', h1, s, h2, h3⟩ := h
  refine ⟨k', h1, s, ?_, h3⟩
  obtain ⟨l, rfl⟩ := hp
  rwa [List.getElem?_append_left (by omega)] at h2
theorem pre_at {tails tails' : List ByteArray} {i : Nat} {s : ByteArray} (hp : tails <+: tails') (h : tails[i]? = some s) : tails'[i]? = some s := by
  obtain ⟨l, rfl⟩ := hp
  have := (List.getElem?_eq_some_iff.1 h).1
  rw [List.getElem?_append_left this]; exact h
theorem prput {T : List ByteArray} (hT : ok T = true) {m1 m2 : List UInt8 → Option (List UInt8)} {again : Bool} {Q Q' : List UInt8 × List UInt8 → Prop} (h : impl_misleading.PR T m1 m2 again Q) (hg : impl_misleading.Good T m2) {r x c : List UInt8} {p : List UInt8 × List UInt8} (hx : again = false → m1 r = some x) (he : ext r x c = some p) (hr : impl_misleading.Reach T p.1 p.2) (hl : p.2.length ≤ 10 + 5 * cnt T m2)
    (hq : ∀ q, Q' q → Q q ∨ ∃ y, m1 r = some y ∧ ext r y c = some q) : impl_misleading.PR T m1 (nxt m2 p) (bad m2 p || again) Q' := by
  obtain ⟨_, g2, g3, g4⟩ := impl_misleading.nxt_good hT hg hr hl
  obtain ⟨h1, h2, h3, h4⟩ := h
  cases hb : bad m2 p with
  | true =>
    have := g3 hb
    exact ⟨h1.trans g2, by omega, fun _ => by omega, fun e => by cases e⟩
  | false =>
    rw [g4 hb, Bool.false_or]
    refine ⟨h1, h2, h3, fun e => ⟨(h4 e).1, fun q hQ => ?_⟩⟩
    rcases hq q hQ with hq1 | ⟨y, hy, hye⟩
    · exact (h4 e).2 q hq1
    · have e1 := (h4 e).1
      rw [hx e] at hy
      obtain rfl := Option.some.inj hy
      rw [he] at hye
      obtain rfl := Option.some.inj hye
      rw [← e1]; exact hb
theorem cnt_nxt {T : List ByteArray} (hT : ok T = true) {m : List UInt8 → Option (List UInt8)} (h : impl_misleading.Good T m) {p : List UInt8 × List UInt8} (hr : impl_misleading.Reach T p.1 p.2) (hl : p.2.length ≤ 10 + 5 * cnt T m) : cnt T m ≤ cnt T (nxt m p) := by
  by_cases hb : bad m p = true
  · have := (impl_misleading.put_good hT h hr hl hb).2.2.2
    have e : nxt m p = upd m p.1 p.2 := if_pos hb
    rw [e]; omega
  · have e : nxt m p = m := if_neg hb
    rw [e]; exact Nat.le_refl _
theorem cut2 (b : ByteArray) (n : Nat) : (b.extract n b.size).data.toList = b.data.toList.drop n := by
  have eb := size_data b
  rw [ByteArray.data_extract, Array.toList_extract, List.extract_eq_take_drop]
  rw [List.take_of_length_le]
  rw [List.length_drop]; omega
theorem step_l1 {T : List ByteArray} (hT : ok T = true) (m1 : List UInt8 → Option (List UInt8)) (i : Nat) (hi : i ≤ 60) (tail text : ByteArray) (hne : tail.data.toList ≠ []) (hre : impl_misleading.Reach T tail.data.toList text.data.toList) (d : Nat) : ∀ (j : Nat) (tails texts : List ByteArray) (m2 : List UInt8 → Option (List UInt8)) (g : Bool), j ≤ T.length → T.length - j = d → SI T tails texts m2 → impl_misleading.PR T m1 m2 g (Q10 T tails m1 i tail.data.toList j) → tails[i]? = some tail → text.data.toList.length ≤ 5 + 5 * cnt T m2 → (g = false → m1 tail.data.toList = some text.data.toList) →
    ∃ (tails' texts' : List ByteArray) (m' : List UInt8 → Option (List UInt8)) (g' : Bool), SI T tails' texts' m' ∧ impl_misleading.PR T m1 m' g' (Q8 T tails' m1 (i + 1)) ∧ tails <+: tails' ∧ Lead (fun k => spec_l3Step.l1 k (i : Int) tail text (j : Int) T tails texts g) (fun k => spec_l3Step.l0 k ((i + 1 : Nat) : Int) T tails' texts' g') := by
  have h10 := impl_misleading.ok_len hT
  have ei : wrap64 ((i : Int) + 1) = ((i + 1 : Nat) : Int) := by rw [wr (by omega) (by omega)]; omega
  induction d with
  | zero =>
    intro j tails texts m2 g hj hd S P hs ht hx
    have : j = T.length := by omega
    subst this
    refine ⟨tails, texts, m2, g, S, P.weak (impl_misleading.Q8_next hs), List.prefix_refl _, Lead.trans (B := fun k => spec_l3Step.j2 k (i : Int) tail text (T.length : Int) false T tails texts g) (Lead.step 0 fun k _ => ?_) (Lead.step 0 fun k _ => ?_)⟩
    · simp only [spec_l3Step.l1]
      rw [if_neg (by omega)]
    · simp only [spec_l3Step.j2]
      rw [if_neg (by simp), ei]
  | succ d ih =>
    intro j tails texts m2 g hj hd S P hs ht hx
    have hlt : j < T.length := by omega
    have ej : wrap64 ((j : Int) + 1) = ((j + 1 : Nat) : Int) := by rw [wr (by omega) (by omega)]; omega
    obtain ⟨b, hb⟩ : ∃ b, T[j] = b := ⟨_, rfl⟩
    have hbm : b ∈ T := by rw [← hb]; exact List.getElem_mem hlt
    have hbd : T.getD j ByteArray.empty = b := by rw [List.getD_eq_getElem?_getD, List.getElem?_eq_getElem hlt, hb]; rfl
    have hrd : rdOf ByteArray.empty T (j : Int) = b := by rw [rdS_get T j hlt, hb]
    have hnb : (tail.toList != ([] : List UInt8)) = true := by rw [ByteArray.toList_eq, bne_iff_ne]; exact hne
    have h5 := (impl_misleading.ok_mem hT hbm).2.1
    have eb := size_data b
    have et := size_data tail
    have ex := size_data text
    have h60 := impl_misleading.cnt_le hT m2
    have L1 : Lead (fun k => spec_l3Step.l1 k (i : Int) tail text (j : Int) T tails texts g) (fun k => spec_l3Step.j2 k (i : Int) tail text (j : Int) true T tails texts g) := Lead.step 0 fun k _ => by
      simp only [spec_l3Step.l1]
      rw [if_pos (by omega), hnb]
    have hil : i < tails.length := (List.getElem?_eq_some_iff.1 hs).1
    have next : ∀ (tails' texts' : List ByteArray) (m3 : List UInt8 → Option (List UInt8)) (g3 : Bool), SI T tails' texts' m3 → impl_misleading.PR T m1 m3 g3 (Q10 T tails' m1 i tail.data.toList (j + 1)) → tails <+: tails' → cnt T m2 ≤ cnt T m3 → (g3 = false → g = false) → Lead (fun k => spec_l3Step.j2 k (i : Int) tail text (j : Int) true T tails texts g) (fun k => spec_l3Step.l1 k (i : Int) tail text ((j + 1 : Nat) : Int) T tails' texts' g3) →
        ∃ (tails' texts' : List ByteArray) (m' : List UInt8 → Option (List UInt8)) (g' : Bool), SI T tails' texts' m' ∧ impl_misleading.PR T m1 m' g' (Q8 T tails' m1 (i + 1)) ∧ tails <+: tails' ∧ Lead (fun k => spec_l3Step.l1 k (i : Int) tail text (j : Int) T tails texts g) (fun k => spec_l3Step.l0 k ((i + 1 : Nat) : Int) T tails' texts' g') := by
      intro tails' texts' m3 g3 S3 P3 hp hcn hg3 L2
      obtain ⟨t4, x4, m4, g4, S4, P4, hp4, L3⟩ := ih (j + 1) tails' texts' m3 g3 (by omega) (by omega) S3 P3 (pre_at hp hs) (by omega) (fun e => hx (hg3 e))
      exact ⟨t4, x4, m4, g4, S4, P4, hp.trans hp4, (L1.trans L2).trans L3⟩
    have hqn : ∀ (tails' : List ByteArray), tails <+: tails' → ∀ q, Q10 T tails' m1 i tail.data.toList (j + 1) q → Q10 T tails m1 i tail.data.toList j q ∨ ∃ y, m1 tail.data.toList = some y ∧ ext tail.data.toList y b.data.toList = some q := fun tails' hp q hq => by
      rcases impl_misleading.Q10_next hbd q hq with hq | hq
      · rcases hq with hq | hq
        · exact Or.inl (Or.inl (Q8_pre hp (by omega) q hq))
        · exact Or.inl (Or.inr hq)
      · exact Or.inr hq
    cases hp1 : b.data.toList.isPrefixOf tail.data.toList with
    | true =>
      have he : ext tail.data.toList text.data.toList b.data.toList = some (tail.data.toList.drop b.data.toList.length, text.data.toList) := by unfold impl_misleading.ext; rw [if_pos hp1]
      have hr := hre.step hne hbm he
      have hl : text.data.toList.length ≤ 10 + 5 * cnt T m2 := by omega
      have hle : b.size ≤ tail.size := by have := (List.isPrefixOf_iff_prefix.1 hp1).length_le; omega
      obtain ⟨t3, x3, hput, S3, hpre⟩ := put_ok hT S (tail.extract b.size tail.size) text (p := (tail.data.toList.drop b.data.toList.length, text.data.toList)) (by rw [cut2, eb]) hr hl g
      refine next t3 x3 _ _ S3 (prput hT P S.good hx he hr hl (hqn t3 hpre)) hpre (cnt_nxt hT S.good hr hl) (fun e => by simp only [Bool.or_eq_false_iff] at e; exact e.2) (Lead.step 1101 fun k hk => ?_)
      simp only [spec_l3Step.j2, if_true]
      rw [if_pos (by omega), if_pos (by omega), hrd, begins_eq, hp1]
      simp only [Option.bind_some, if_true, Int.toNat_natCast]
      rw [if_pos (by omega), if_pos (by omega), hput k (by omega), ej]
      rfl
    | false =>
      cases hp2 : tail.data.toList.isPrefixOf b.data.toList with
      | true =>
        have he : ext tail.data.toList text.data.toList b.data.toList = some (b.data.toList.drop tail.data.toList.length, text.data.toList ++ b.data.toList.drop tail.data.toList.length) := by unfold impl_misleading.ext; rw [if_neg (by rw [hp1]; simp), if_pos hp2]
        have hr := hre.step hne hbm he
        have hl : (text.data.toList ++ b.data.toList.drop tail.data.toList.length).length ≤ 10 + 5 * cnt T m2 := by rw [List.length_append, List.length_drop]; omega
        have hle : tail.size ≤ b.size := by have := (List.isPrefixOf_iff_prefix.1 hp2).length_le; omega
        obtain ⟨t3, x3, hput, S3, hpre⟩ := put_ok hT S (b.extract tail.size b.size) (text ++ b.extract tail.size b.size) (p := (b.data.toList.drop tail.data.toList.length, text.data.toList ++ b.data.toList.drop tail.data.toList.length)) (by rw [ByteArray.data_append, Array.toList_append, cut2, et]) hr hl g
        refine next t3 x3 _ _ S3 (prput hT P S.good hx he hr hl (hqn t3 hpre)) hpre (cnt_nxt hT S.good hr hl) (fun e => by simp only [Bool.or_eq_false_iff] at e; exact e.2) (Lead.step 1101 fun k hk => ?_)
        simp only [spec_l3Step.j2, if_true]
        rw [if_pos (by omega), if_pos (by omega), hrd, begins_eq, hp1]
        simp only [Option.bind_some, Bool.false_eq_true, if_false]
        rw [begins_eq, hp2]
        simp only [Option.bind_some, if_true, Int.toNat_natCast]
        rw [if_pos (by omega), if_pos (by omega), if_pos (by rw [ByteArray.size_extract]; omega), hput k (by omega), ej]
        rfl
      | false =>
        refine next tails texts m2 g S (P.skip hp1 hp2 (hqn tails (List.prefix_refl _))) (List.prefix_refl _) (Nat.le_refl _) (fun e => e) (Lead.step 0 fun k hk => ?_)
        simp only [spec_l3Step.j2, if_true]
        rw [if_pos (by omega), if_pos (by omega), hrd, begins_eq, hp1]
        simp only [Option.bind_some, Bool.false_eq_true, if_false]
        rw [begins_eq, hp2]
        simp only [Option.bind_some, Bool.false_eq_true, if_false, ej]
theorem step_l0 {T : List ByteArray} (hT : ok T = true) (m1 : List UInt8 → Option (List UInt8)) (e : Nat) : ∀ (i : Nat) (tails texts : List ByteArray) (m2 : List UInt8 → Option (List UInt8)) (g : Bool), i ≤ tails.length → 61 ≤ e + i → SI T tails texts m2 → impl_misleading.PR T m1 m2 g (Q8 T tails m1 i) →
    ∃ (tails' texts' : List ByteArray) (m' : List UInt8 → Option (List UInt8)) (g' : Bool), SI T tails' texts' m' ∧ impl_misleading.PR T m1 m' g' (Q8 T tails' m1 tails'.length) ∧ Ends (fun k => spec_l3Step.l0 k (i : Int) T tails texts g) (tails', texts', g') := by
  induction e with
  | zero =>
    intro i tails texts m2 g hi he S P
    have h1 := S.few
    have h2 := impl_misleading.cnt_le hT m2
    omega
  | succ e ih =>
    intro i tails texts m2 g hi he S P
    have h1 := S.few
    have h2 := impl_misleading.cnt_le hT m2
    have h0 := impl_misleading.ok_pos hT
    by_cases hlt : i < tails.length
    · have hlx : i < texts.length := by rw [← S.len]; exact hlt
      have ei : wrap64 ((i : Int) + 1) = ((i + 1 : Nat) : Int) := by rw [wr (by omega) (by omega)]; omega
      have hat := lk_at tails texts S.len S.nd i hlt hlx
      rw [S.look] at hat
      have hs : tails[i]? = some tails[i] := List.getElem?_eq_getElem hlt
      have L0 : Lead (fun k => spec_l3Step.l0 k (i : Int) T tails texts g) (fun k => spec_l3Step.l1 k (i : Int) tails[i] texts[i] ((0 : Nat) : Int) T tails texts g) := Lead.step 0 fun k _ => by
        simp only [spec_l3Step.l0]
        rw [if_pos (by omega), if_pos (by omega), if_pos (by omega), rdS_get tails i hlt, rdS_get texts i hlx]
        rfl
      generalize tails[i] = tail at *
      generalize texts[i] = text at *
      by_cases hne : tail.data.toList = []
      · have hnb : (tail.toList != ([] : List UInt8)) = false := by rw [ByteArray.toList_eq, hne]; rfl
        obtain ⟨t3, x3, m3, g3, S3, P3, E3⟩ := ih (i + 1) tails texts m2 g (by omega) (by omega) S (P.weak (impl_misleading.Q8_skip hs hne))
        refine ⟨t3, x3, m3, g3, S3, P3, (L0.trans (Lead.trans (B := fun k => spec_l3Step.j2 k (i : Int) tail text ((0 : Nat) : Int) false T tails texts g) (Lead.step 0 fun k _ => ?_) (Lead.step 0 fun k _ => ?_))).ends E3⟩
        · simp only [spec_l3Step.l1]
          rw [if_pos (by omega), hnb]
        · simp only [spec_l3Step.j2]
          rw [if_neg (by simp), ei]
      · obtain ⟨t3, x3, m3, g3, S3, P3, hp3, L3⟩ := step_l1 hT m1 i (by omega) tail text hne (S.good.sound _ _ hat) (T.length - 0) 0 tails texts m2 g (Nat.zero_le _) rfl S (P.weak fun p hp => by
          rcases hp with hp | ⟨j', h, _⟩
          · exact hp
          · omega) hs (S.good.len _ _ hat) (fun eg => by rw [← (P.2.2.2 eg).1]; exact hat)
        have hlen : i + 1 ≤ t3.length := Nat.le_trans hlt hp3.length_le
        obtain ⟨t4, x4, m4, g4, S4, P4, E4⟩ := ih (i + 1) t3 x3 m3 g3 hlen (by omega) S3 P3
        exact ⟨t4, x4, m4, g4, S4, P4, (L0.trans L3).ends E4⟩
    · have : i = tails.length := by omega
      subst this
      refine ⟨tails, texts, m2, g, S, P, ⟨1, fun k hk => ?_⟩⟩
      obtain ⟨k, rfl⟩ : ∃ j, k = j + 1 := ⟨k - 1, by omega⟩
      simp only [spec_l3Step.l0]
      rw [if_neg (by omega)]
/-! the pairs of marks, the sweeps, the answer -/
theorem out_of {T tails texts : List ByteArray} {m : List UInt8 → Option (List UInt8)} (hT : ok T = true) (S : SI T tails texts m) : Ends (fun k => spec_l3First.l2 k T tails texts false) (impl_misleading.out m) := by
  have h1 := S.few
  have h2 := impl_misleading.cnt_le hT m
  refine ⟨1102, fun k hk => ?_⟩
  obtain ⟨k, rfl⟩ : ∃ j, k = j + 1 := ⟨k - 1, by omega⟩
  simp only [spec_l3First.l2, Bool.false_eq_true, if_false]
  rw [l2Place_eq tails (by omega) _ k (by omega)]
  have hf := lk_find (⟨#[]⟩ : ByteArray) tails texts S.len
  rw [S.look] at hf
  have hpn : placeN tails (⟨#[]⟩ : ByteArray) = match tails.findIdx? (fun b => (⟨#[]⟩ : ByteArray).toList == b.toList) with
    | some i => (i : Int)
    | none => -1 := rfl
  have e0 : (⟨#[]⟩ : ByteArray).data.toList = [] := rfl
  rw [e0] at hf
  unfold impl_misleading.out
  cases e : tails.findIdx? (fun b => (⟨#[]⟩ : ByteArray).toList == b.toList) with
  | none =>
    rw [e] at hf hpn
    rw [hpn, hf.1]
    simp only [Option.bind_some]
    rw [if_pos (by omega)]
  | some i =>
    rw [e] at hf hpn
    obtain ⟨h1, h2, h3, _⟩ := hf
    rw [hpn, h3]
    simp only [Option.bind_some]
    rw [if_neg (by omega), if_pos (by omega), if_pos (by omega), rdS_get texts i h2]
theorem first_l2 {T : List ByteArray} (hT : ok T = true) (N : Nat) : ∀ (tails texts : List ByteArray) (m : List UInt8 → Option (List UInt8)) (g : Bool), SI T tails texts m → (∀ p ∈ inits T, bad m p = false) → (g = false → impl_misleading.Closed T m) → phi T m + (if g = true then 1 else 0) < N →
    ∃ m', impl_misleading.Sound T m' ∧ impl_misleading.Closed T m' ∧ Ends (fun k => spec_l3First.l2 k T tails texts g) (impl_misleading.out m') := by
  induction N with
  | zero => intro tails texts m g _ _ _ h; omega
  | succ N ih =>
    intro tails texts m g S DI DC hN
    cases g with
    | false => exact ⟨m, S.good.sound, DC rfl, out_of hT S⟩
    | true =>
      rw [if_pos rfl] at hN
      obtain ⟨t3, x3, m3, g3, S3, P3, E3⟩ := step_l0 hT m 61 0 tails texts m false (Nat.zero_le _) (by omega) S (impl_misleading.PR.start T m _ impl_misleading.Q8_zero)
      obtain ⟨K3, hK3⟩ := E3
      have DC3 : g3 = false → impl_misleading.Closed T m3 := fun e => by
        subst e
        refine impl_misleading.closed_round P3 DI fun l hl => ?_
        have e := (P3.2.2.2 rfl).1
        rw [← e, ← S3.look] at hl
        exact lk_mem t3 x3 l hl
      obtain ⟨m4, h1, h2, h3⟩ := ih t3 x3 m3 g3 S3 (fun p hp => impl_misleading.bad_le P3.1 (DI p hp)) DC3 (by
        cases g3 with
        | true => have := P3.2.2.1 rfl; rw [if_pos rfl]; omega
        | false => have := P3.2.1; rw [if_neg (by simp)]; omega)
      refine ⟨m4, h1, h2, (Lead.step K3 fun k hk => ?_).ends h3⟩
      simp only [spec_l3First.l2, if_true]
      have hs : spec_l3Step.f k T tails texts true = some (t3, x3, g3) := hK3 k hk
      rw [hs]
      rfl
theorem first_l1 {T : List ByteArray} (hT : ok T = true) (i : Nat) (hi : i < T.length) (d : Nat) : ∀ (j : Nat) (tails texts : List ByteArray) (m : List UInt8 → Option (List UInt8)), j ≤ T.length → T.length - j = d → SI T tails texts m → (∀ j' p, j' < j → initAt T i j' = some p → bad m p = false) →
    ∃ (tails' texts' : List ByteArray) (m' : List UInt8 → Option (List UInt8)), SI T tails' texts' m' ∧ impl_misleading.Le m m' ∧ (∀ j' p, j' < T.length → initAt T i j' = some p → bad m' p = false) ∧ Lead (fun k => spec_l3First.l1 k (i : Int) (j : Int) T tails texts true) (fun k => spec_l3First.l0 k ((i + 1 : Nat) : Int) T tails' texts' true) := by
  have h10 := impl_misleading.ok_len hT
  have ei : wrap64 ((i : Int) + 1) = ((i + 1 : Nat) : Int) := by rw [wr (by omega) (by omega)]; omega
  induction d with
  | zero =>
    intro j tails texts m hj hd S D
    have : j = T.length := by omega
    subst this
    refine ⟨tails, texts, m, S, impl_misleading.Le.refl m, D, Lead.step 0 fun k _ => ?_⟩
    simp only [spec_l3First.l1]
    rw [if_neg (by omega), ei]
  | succ d ih =>
    intro j tails texts m hj hd S D
    have hlt : j < T.length := by omega
    have ej : wrap64 ((j : Int) + 1) = ((j + 1 : Nat) : Int) := by rw [wr (by omega) (by omega)]; omega
    obtain ⟨a, ha⟩ : ∃ a, T[i] = a := ⟨_, rfl⟩
    obtain ⟨b, hb⟩ : ∃ b, T[j] = b := ⟨_, rfl⟩
    have had : T.getD i ByteArray.empty = a := by rw [List.getD_eq_getElem?_getD, List.getElem?_eq_getElem hi, ha]; rfl
    have hbd : T.getD j ByteArray.empty = b := by rw [List.getD_eq_getElem?_getD, List.getElem?_eq_getElem hlt, hb]; rfl
    have hra : rdOf ByteArray.empty T (i : Int) = a := by rw [rdS_get T i hi, ha]
    have hrb : rdOf ByteArray.empty T (j : Int) = b := by rw [rdS_get T j hlt, hb]
    have ea := size_data a
    have eb := size_data b
    have skip : initAt T i j = none → Lead (fun k => spec_l3First.l1 k (i : Int) (j : Int) T tails texts true) (fun k => spec_l3First.l1 k (i : Int) ((j + 1 : Nat) : Int) T tails texts true) →
        ∃ (tails' texts' : List ByteArray) (m' : List UInt8 → Option (List UInt8)), SI T tails' texts' m' ∧ impl_misleading.Le m m' ∧ (∀ j' p, j' < T.length → initAt T i j' = some p → bad m' p = false) ∧ Lead (fun k => spec_l3First.l1 k (i : Int) (j : Int) T tails texts true) (fun k => spec_l3First.l0 k ((i + 1 : Nat) : Int) T tails' texts' true) := by
      intro hn L
      obtain ⟨t3, x3, m3, S3, l3, D3, L3⟩ := ih (j + 1) tails texts m (by omega) (by omega) S (fun j' p h1 h2 => by
        by_cases e : j' = j
        · subst e; rw [hn] at h2; cases h2
        · exact D j' p (by omega) h2)
      exact ⟨t3, x3, m3, S3, l3, D3, L.trans L3⟩
    by_cases hij : i = j
    · subst hij
      refine skip (impl_misleading.initAt_none had hbd (Or.inl rfl)) (Lead.step 0 fun k _ => ?_)
      simp only [spec_l3First.l1]
      rw [if_pos (by omega), if_pos trivial, ei]
    · cases hp : a.data.toList.isPrefixOf b.data.toList with
      | false =>
        refine skip (impl_misleading.initAt_none had hbd (Or.inr hp)) (Lead.step 0 fun k _ => ?_)
        simp only [spec_l3First.l1]
        rw [if_pos (by omega), if_neg (by omega), if_pos (by omega), if_pos (by omega), if_pos (by omega), hra, hrb, begins_eq, hp]
        simp only [Option.bind_some, Bool.false_eq_true, if_false, ej]
      | true =>
        have hs := impl_misleading.initAt_some had hbd hij hp
        have hin : (b.data.toList.drop a.data.toList.length, b.data.toList) ∈ inits T := impl_misleading.init_iff.2 ⟨i, j, hi, hlt, hs⟩
        have hr := impl_misleading.Reach.init hin
        have hl := impl_misleading.init_len hT hin
        have hle : a.size ≤ b.size := by have := (List.isPrefixOf_iff_prefix.1 hp).length_le; omega
        obtain ⟨t2, x2, hput, S2, _⟩ := put_ok hT S (b.extract a.size b.size) b (p := (b.data.toList.drop a.data.toList.length, b.data.toList)) (by rw [cut2, ea]) hr (by omega) true
        have hg := impl_misleading.nxt_good hT S.good hr (by omega)
        obtain ⟨t3, x3, m3, S3, l3, D3, L3⟩ := ih (j + 1) t2 x2 _ (by omega) (by omega) S2 (fun j' p h1 h2 => by
          by_cases e : j' = j
          · subst e
            rw [hs] at h2
            obtain rfl := Option.some.inj h2
            exact impl_misleading.bad_nxt _ _
          · exact impl_misleading.bad_le hg.2.1 (D j' p (by omega) h2))
        refine ⟨t3, x3, m3, S3, hg.2.1.trans l3, D3, Lead.trans (Lead.step 1101 fun k hk => ?_) L3⟩
        simp only [spec_l3First.l1]
        rw [if_pos (by omega), if_neg (by omega), if_pos (by omega), if_pos (by omega), if_pos (by omega), hra, hrb, begins_eq, hp]
        simp only [Option.bind_some, if_true, Int.toNat_natCast]
        rw [if_pos (by omega), if_pos (by omega), hput k (by omega), ej, Bool.or_true]
        rfl
theorem first_l0 {T : List ByteArray} (hT : ok T = true) (d : Nat) : ∀ (i : Nat) (tails texts : List ByteArray) (m : List UInt8 → Option (List UInt8)), i ≤ T.length → T.length - i = d → SI T tails texts m → (∀ i' j p, i' < i → j < T.length → initAt T i' j = some p → bad m p = false) →
    ∃ (tails' texts' : List ByteArray) (m' : List UInt8 → Option (List UInt8)), SI T tails' texts' m' ∧ (∀ p ∈ inits T, bad m' p = false) ∧ Lead (fun k => spec_l3First.l0 k (i : Int) T tails texts true) (fun k => spec_l3First.l2 k T tails' texts' true) := by
  induction d with
  | zero =>
    intro i tails texts m hi hd S D
    have : i = T.length := by omega
    subst this
    refine ⟨tails, texts, m, S, fun p hp => ?_, Lead.step 0 fun k _ => ?_⟩
    · obtain ⟨i, j, h1, h2, h3⟩ := impl_misleading.init_iff.1 hp
      exact D i j p h1 h2 h3
    · simp only [spec_l3First.l0]
      rw [if_neg (by omega)]
  | succ d ih =>
    intro i tails texts m hi hd S D
    have hlt : i < T.length := by omega
    obtain ⟨t2, x2, m2, S2, l2, D2, L2⟩ := first_l1 hT i hlt (T.length - 0) 0 tails texts m (Nat.zero_le _) rfl S (fun _ _ h => by omega)
    obtain ⟨t3, x3, m3, S3, D3, L3⟩ := ih (i + 1) t2 x2 m2 (by omega) (by omega) S2 (fun i' j p h1 h2 h3 => by
      by_cases e : i' = i
      · subst e; exact D2 j p h2 h3
      · exact impl_misleading.bad_le l2 (D i' j p (by omega) h2 h3))
    refine ⟨t3, x3, m3, S3, D3, Lead.trans (Lead.step 0 fun k _ => ?_) (L2.trans L3)⟩
    simp only [spec_l3First.l0]
    rw [if_pos (by omega)]
    rfl
/-- what both answer of a valid table -/
theorem first_both {T : List ByteArray} (hT : ok T = true) : ∃ R : ByteArray × Bool, impl_misleading.f T = some R ∧ Ends (fun k => spec_l3First.f k T) R ∧ dd R.1.data.toList = true := by
  obtain ⟨t2, x2, m2, S2, D2, L2⟩ := first_l0 hT (T.length - 0) 0 [] [] (fun _ => none) (Nat.zero_le _) rfl ⟨rfl, by funext r; rfl, impl_misleading.good_none T, Nat.zero_le _, by simp⟩ (fun _ _ _ h => by omega)
  obtain ⟨m', h1, h2, h3⟩ := first_l2 hT _ t2 x2 m2 true S2 D2 (fun h => by cases h) (Nat.lt_succ_self _)
  refine ⟨impl_misleading.out m', impl_misleading.f_ends hT h1 h2, L2.ends h3, ?_⟩
  unfold impl_misleading.out
  cases e : m' [] with
  | none => rfl
  | some x => exact (impl_misleading.reach_ok hT (h1 _ _ e)).2
theorem ok_tab (l : List ByteArray) (ht : isTab l = true) : ok l = true := by
  have h := ht
  simp only [isTab, Bool.and_eq_true, decide_eq_true_eq] at h
  have hm := goodT_mk l [] h.2
  simp only [impl_misleading.ok, Bool.and_eq_true, decide_eq_true_eq, List.all_eq_true]
  refine ⟨by omega, fun c hc => ?_⟩
  have h1 := hm c hc
  simp only [isMk, Bool.and_eq_true, decide_eq_true_eq] at h1
  exact ⟨by omega, h1.2⟩
theorem both (l : List ByteArray) (h1 : l.length ≤ 1048576) (h2 : ∀ s ∈ l, s.size ≤ 1048576) : ∃ K R, ∀ k, K ≤ k → spec_FirstMisleading.f k l = some R ∧ impl_FirstMisleading.f k l = some R := by
  by_cases ht : isTab l = true
  · obtain ⟨R, hi, ⟨K, hK⟩, hd⟩ := first_both (ok_tab l ht)
    obtain ⟨s, b⟩ := R
    simp only at hd
    cases b with
    | false =>
      refine ⟨K + 4194400, ((⟨#[]⟩ : ByteArray), false), fun k hk => ?_⟩
      have hs : spec_l3First.f k l = some (s, false) := hK k (by omega)
      unfold spec_FirstMisleading.f impl_FirstMisleading.f
      rw [l2Table_eq l h1 h2 _ (by omega), isTable_eq l h1 h2 _ (by omega), ht, hs, hi]
      exact ⟨rfl, rfl⟩
    | true =>
      by_cases hz : s.size ≤ 40
      · refine ⟨K + 4194400, (s, true), fun k hk => ?_⟩
        have hs : spec_l3First.f k l = some (s, true) := hK k (by omega)
        have hm : isMk s 0 40 = true := by
          simp only [isMk, Bool.and_eq_true, decide_eq_true_eq]
          exact ⟨by omega, hd⟩
        unfold spec_FirstMisleading.f impl_FirstMisleading.f impl_IsBare.f
        rw [l2Table_eq l h1 h2 _ (by omega), isTable_eq l h1 h2 _ (by omega), ht, hs, hi]
        simp only [Option.bind_some, if_true]
        rw [areMarks_eq s (by omega), hm]
        simp only [Option.bind_some, if_true]
        rw [if_neg (by omega)]
        exact ⟨rfl, trivial⟩
      · refine ⟨max K 4194400, ((⟨#[]⟩ : ByteArray), false), fun k hk => ?_⟩
        have hs : spec_l3First.f k l = some (s, true) := hK k (by omega)
        by_cases hbig : s.size ≤ 1048576
        · have hm : isMk s 0 40 = false := by
            simp only [isMk, Bool.and_eq_false_iff, decide_eq_false_iff_not]
            exact Or.inl (Or.inr (by omega))
          unfold spec_FirstMisleading.f impl_FirstMisleading.f impl_IsBare.f
          rw [l2Table_eq l h1 h2 _ (by omega), isTable_eq l h1 h2 _ (by omega), ht, hs, hi]
          simp only [Option.bind_some, if_true]
          rw [areMarks_eq s hbig, hm]
          simp only [Option.bind_some, Bool.false_eq_true, if_false]
          rw [if_pos (by omega)]
          exact ⟨rfl, by first | rfl | trivial⟩
        · unfold spec_FirstMisleading.f impl_FirstMisleading.f impl_IsBare.f impl_areMarks.f
          rw [l2Table_eq l h1 h2 _ (by omega), isTable_eq l h1 h2 _ (by omega), ht, hs, hi]
          simp only [Option.bind_some, if_true]
          rw [in_eq, show (decide ((0 : Int) ≤ (s.size : Int)) && decide ((s.size : Int) ≤ 40)) = false by simp; omega]
          simp only [Option.bind_some, Bool.false_eq_true, if_false]
          rw [if_pos (by omega)]
          exact ⟨rfl, by first | rfl | trivial⟩
  · refine ⟨4194400, ((⟨#[]⟩ : ByteArray), false), fun k hk => ?_⟩
    unfold spec_FirstMisleading.f impl_FirstMisleading.f
    rw [l2Table_eq l h1 h2 _ (by omega), isTable_eq l h1 h2 _ (by omega), (Bool.not_eq_true _).mp ht]
    exact ⟨rfl, rfl⟩
theorem FnExactFirstMisleading : laws_FnExactFirstMisleading.Pure := by
  intro l hl hs
  obtain ⟨t, ht, hb⟩ := szTable_eq l hl hs
  by_cases h0 : t < 0
  · refine ⟨l.length + 1, ?_⟩
    unfold laws_FnExactFirstMisleading.f
    rw [ht _ (by omega)]
    simp only [Option.bind_some, h0, if_true]
  · obtain ⟨h1, h2⟩ := hb (by omega)
    obtain ⟨K, R, hR⟩ := both l h1 h2
    obtain ⟨M, hM⟩ : ∃ M : Nat, K ≤ M ∧ 4194400 ≤ M := ⟨K + 4194400, by omega, by omega⟩
    refine ⟨M + 1, ?_⟩
    have r := hR (M + 1) (by omega)
    unfold laws_FnExactFirstMisleading.f
    rw [ht _ (by omega)]
    simp only [Option.bind_some, h0, if_false, toTable_eq l h1 (M + 1) (by omega), r.1, r.2, bne_self_eq_false, Bool.false_eq_true, if_true]
    simp only [laws_FnExactFirstMisleading.j0, toTable_eq l h1 M (by omega), eqTable_self l h1 M (by omega), Option.bind_some, Bool.false_eq_true, if_false, if_true]

end Go.Proofs.YtpdojionnmehbaaGreatDoor.Pure
