/- TimeOfMessage of the program and of the reference answer alike at every table and text. -/
import Derived.Test.YtbdagfdhkobbcaaDoorHFnExactTimeOfMessagex6
namespace Go.Proofs.YtbdagfdhkobbcaaDoor.Pure
open Go.RowKit Go.Proofs.YtbdagfdhkobbcaaDoor.HFnExactTimeOfMessage Go.Proofs.YtbdagfdhkobbcaaDoorW.PrintWords Go.Proofs.YtbdagfdhkobbcaaDoorW.PrintLast
set_option linter.unusedVariables false
set_option linter.unusedSimpArgs false
set_option linter.unnecessarySimpa false

theorem wr {i : Int} (h0 : -9223372036854775808 ≤ i) (h1 : i ≤ 9223372036854775807) : wrap64 i = i := by unfold wrap64; omega
theorem rd_nat (xs : List Int) (i : Nat) : rd xs (i : Int) = xs.getD i 0 := by simp [rd]
theorem rd_get (xs : List Int) (i : Nat) (h : i < xs.length) : rd xs (i : Int) = xs[i] := by simp [rd, h]
theorem pred_of_lt {d k : Nat} (h : d < k) : ∃ m, k = m + 1 := ⟨k - 1, by omega⟩
/-! bytes of a text -/
theorem size_data (s : ByteArray) : s.data.toList.length = s.size := Array.length_toList
theorem bt_nat (s : ByteArray) (i : Nat) (h : i < s.size) : bt s (i : Int) = ((s.data.toList[i]'(by rw [size_data]; exact h)).toNat : Int) := by
  have := bt_at s (i : Int) (by simpa using h)
  rw [← this]
  rfl
theorem byte_num (b c : UInt8) (n : Nat) (hc : c.toNat = n) : ((b.toNat : Int) = (n : Int)) ↔ b = c := by
  constructor
  · intro h
    exact UInt8.toNat_inj.1 (by omega)
  · rintro rfl; omega
/-! what is left when bytes of a set are taken off both ends -/
theorem dropWhile_nil {p : UInt8 → Bool} (l : List UInt8) : l.dropWhile p = [] ↔ l.all p = true := by
  induction l with
  | nil => simp
  | cons a l ih =>
    rw [List.dropWhile_cons]
    by_cases h : p a = true
    · rw [if_pos h, ih]; simp [h]
    · rw [if_neg h]; simp [h]
theorem trimS_nil (l cs : List UInt8) : Lib.trimS l cs = [] ↔ l.all (cs.contains ·) = true := by
  unfold Lib.trimS Lib.trimLeftS Lib.trimRightS
  rw [dropWhile_nil]
  constructor
  · intro h
    by_cases hr : (l.reverse.dropWhile (cs.contains ·)) = []
    · rw [dropWhile_nil, List.all_reverse] at hr; exact hr
    · exfalso
      rw [List.all_reverse] at h
      cases hd : l.reverse.dropWhile (cs.contains ·) with
      | nil => exact hr hd
      | cons a t =>
        have ha : cs.contains a = false := by
          have := List.head?_dropWhile_not (cs.contains ·) l.reverse
          rw [hd] at this
          simpa using this
        rw [hd] at h
        simp at h
        rw [List.contains_eq_mem] at ha
        simp [h.1] at ha
  · intro h
    have : (l.reverse.dropWhile (cs.contains ·)) = [] := by
      rw [dropWhile_nil, List.all_reverse]; exact h
    rw [this]; rfl
theorem toList_nil (l : List UInt8) : ((⟨l.toArray⟩ : ByteArray).toList == ([] : List UInt8)) = l.isEmpty := by
  have : (⟨l.toArray⟩ : ByteArray).toList = l := by
    rw [ByteArray.toList_eq]
  rw [this]
  cases l <;> rfl
theorem l1In_eq (a b c : Int) : spec_l1In.f a b c = some (decide (b ≤ a) && decide (a ≤ c)) := by
  unfold spec_l1In.f
  by_cases h : a ≥ b
  · rw [if_pos h]; simp [show b ≤ a from h]
  · rw [if_neg h]; simp [show ¬ b ≤ a from h]
theorem in_eq (a b c : Int) : impl_in.f a b c = some (decide (b ≤ a) && decide (a ≤ c)) := by
  unfold impl_in.f
  by_cases h : a ≥ b
  · rw [if_pos h]; simp [show b ≤ a from h]
  · rw [if_neg h]; simp [show ¬ b ≤ a from h]
/-! lists of texts: their sizes, copies, comparisons -/
theorem rdS_get (xs : List ByteArray) (i : Nat) (h : i < xs.length) : rdOf ByteArray.empty xs (i : Int) = xs[i] := by simp [rdOf, h]
theorem toList_inj (a b : ByteArray) : a.toList = b.toList ↔ a = b := by
  rw [ByteArray.toList_eq, ByteArray.toList_eq]
  constructor
  · intro h; exact ByteArray.ext (Array.toList_inj.1 h)
  · rintro rfl; rfl
theorem szStringS_l0 (l : List ByteArray) (hl : l.length ≤ maxLen) (hs : ∀ s ∈ l, s.size ≤ maxLen) (d : Nat) : ∀ (i : Nat) (left : Int), 0 ≤ left → left ≤ 1048576 → i ≤ l.length → l.length - i = d →
    ∃ t : Int, (∀ k, d < k → laws_szStringS.l0 k l left (i : Int) = some t) ∧ t ≤ left ∧ (0 ≤ t → ∀ j (h : j < l.length), i ≤ j → (l[j].size : Int) ≤ left) := by
  unfold maxLen at hl hs
  induction d with
  | zero =>
    intro i left h0 h1 hi hd
    refine ⟨left, fun k hk => ?_, by omega, fun _ j h hij => by omega⟩
    obtain ⟨k, rfl⟩ := pred_of_lt hk
    simp only [laws_szStringS.l0]; rw [if_neg (by omega)]
  | succ d ih =>
    intro i left h0 h1 hi hd
    have hlt : i < l.length := by omega
    have hsz := hs _ (List.getElem_mem hlt)
    have c1 : (i : Int) < (l.length : Int) := by omega
    have c2 : (0 : Int) ≤ (i : Int) := by omega
    have e1 : wrap64 ((i : Int) + 1) = ((i + 1 : Nat) : Int) := by rw [wr (by omega) (by omega)]; omega
    have e2 : wrap64 (left - (l[i].size : Int)) = left - (l[i].size : Int) := by rw [wr (by omega) (by omega)]
    by_cases hc : left - (l[i].size : Int) < 0
    · refine ⟨-1, fun k hk => ?_, by omega, fun h => by omega⟩
      obtain ⟨k, rfl⟩ := pred_of_lt hk
      simp only [laws_szStringS.l0, c1, c2, if_true, rdS_get l i hlt, e2, hc]
    · obtain ⟨t, ht, h2, h3⟩ := ih (i + 1) (left - (l[i].size : Int)) (by omega) (by omega) (by omega) (by omega)
      refine ⟨t, fun k hk => ?_, by omega, fun h0t j h hij => ?_⟩
      · obtain ⟨k, rfl⟩ := pred_of_lt hk
        simp only [laws_szStringS.l0, c1, c2, if_true, rdS_get l i hlt, e2, hc, if_false, e1]
        exact ht k (by omega)
      · by_cases hji : i = j
        · subst hji; omega
        · have := h3 h0t j h (by omega); omega
theorem szStringS_eq (l : List ByteArray) (hl : l.length ≤ maxLen) (hs : ∀ s ∈ l, s.size ≤ maxLen) : ∃ t : Int, (∀ k, l.length < k → laws_szStringS.f k l 1048576 = some t) ∧ (0 ≤ t → l.length ≤ 1048576 ∧ ∀ s ∈ l, s.size ≤ 1048576) := by
  have hl' := hl
  unfold maxLen at hl'
  have e : wrap64 (1048576 - (l.length : Int)) = 1048576 - (l.length : Int) := by rw [wr (by omega) (by omega)]
  by_cases hc : 1048576 - (l.length : Int) < 0
  · refine ⟨-1, fun k hk => ?_, fun h => by omega⟩
    unfold laws_szStringS.f
    rw [e, if_pos hc]
  · obtain ⟨t, ht, h2, h3⟩ := szStringS_l0 l hl hs l.length 0 (1048576 - (l.length : Int)) (by omega) (by omega) (by omega) (by omega)
    refine ⟨t, fun k hk => ?_, fun h0 => ⟨by omega, fun s hsm => ?_⟩⟩
    · unfold laws_szStringS.f
      rw [e, if_neg hc]
      exact ht k hk
    · obtain ⟨j, hj, rfl⟩ := List.getElem_of_mem hsm
      have := h3 h0 j hj (by omega)
      omega
theorem toStringS_l0 (x0 : List ByteArray) (hx : x0.length ≤ 1048576) (d : Nat) : ∀ (k i : Nat) (x3 : List ByteArray), i ≤ x0.length → x0.length - i = d → d < k → x3.length = x0.length → (∀ j, j < i → x3[j]? = x0[j]?) →
    laws_toStringS.l0 k x0 x3 (i : Int) = some x0 := by
  induction d with
  | zero =>
    intro k i x3 hi hd hk hl ht
    obtain ⟨k, rfl⟩ := pred_of_lt hk
    simp only [laws_toStringS.l0]; rw [if_neg (by omega)]
    refine congrArg some (List.ext_getElem? fun j => ?_)
    by_cases hj : j < i
    · exact ht j hj
    · rw [List.getElem?_eq_none (by omega), List.getElem?_eq_none (by omega)]
  | succ d ih =>
    intro k i x3 hi hd hk hl ht
    obtain ⟨k, rfl⟩ := pred_of_lt hk
    simp only [laws_toStringS.l0]; rw [if_pos (by omega), if_pos (by omega), if_pos (by omega), wr (by omega) (by omega)]
    have e : ((i : Int) + 1) = ((i + 1 : Nat) : Int) := by omega
    rw [e, Int.toNat_natCast, rdS_get x0 i (by omega)]
    refine ih k (i + 1) _ (by omega) (by omega) (by omega) (by simpa using hl) fun j hj => ?_
    rw [List.getElem?_set]
    by_cases hji : i = j
    · subst hji
      simp [show i < x3.length by omega, show i < x0.length by omega]
    · rw [if_neg hji]; exact ht j (by omega)
theorem toStringS_eq (l : List ByteArray) (h : l.length ≤ 1048576) (k : Nat) (hk : l.length < k) : laws_toStringS.f k l = some l := by
  unfold laws_toStringS.f
  rw [if_pos (by omega), if_pos (by omega)]
  exact toStringS_l0 l (by omega) l.length k 0 _ (by omega) (by omega) hk (by simp) (fun j hj => by omega)
theorem eqStringS_l0 (a : List ByteArray) (ha : a.length ≤ 1048576) (d : Nat) : ∀ (k i : Nat), i ≤ a.length → a.length - i = d → d < k → laws_eqStringS.l0 k a a (i : Int) = some true := by
  induction d with
  | zero =>
    intro k i hi hd hk
    obtain ⟨k, rfl⟩ := pred_of_lt hk
    simp only [laws_eqStringS.l0]; rw [if_neg (by omega)]
  | succ d ih =>
    intro k i hi hd hk
    obtain ⟨k, rfl⟩ := pred_of_lt hk
    simp only [laws_eqStringS.l0, if_true]; rw [if_pos (by omega), if_pos (by omega), if_pos (by omega), wr (by omega) (by omega)]
    have e : ((i : Int) + 1) = ((i + 1 : Nat) : Int) := by omega
    rw [e]
    exact ih k (i + 1) (by omega) (by omega) (by omega)
theorem eqStringS_self (a : List ByteArray) (ha : a.length ≤ 1048576) (k : Nat) (hk : a.length < k) : laws_eqStringS.f k a a = some true := by
  unfold laws_eqStringS.f
  rw [if_pos rfl]
  exact eqStringS_l0 a ha a.length k 0 (by omega) (by omega) hk
/-! a table that a law is handed -/
theorem szTable_eq (l : List ByteArray) (hl : l.length ≤ maxLen) (hs : ∀ s ∈ l, s.size ≤ maxLen) : ∃ t : Int, (∀ k, l.length < k → laws_szTable.f k l 1048576 = some t) ∧ (0 ≤ t → l.length ≤ 1048576 ∧ ∀ s ∈ l, s.size ≤ 1048576) := by
  obtain ⟨t, ht, h⟩ := szStringS_eq l hl hs
  by_cases h0 : t < 0
  · refine ⟨-1, fun k hk => ?_, fun h => by omega⟩
    unfold laws_szTable.f
    rw [ht k hk]; simp only [Option.bind_some]; rw [if_pos h0]
  · refine ⟨t, fun k hk => ?_, h⟩
    unfold laws_szTable.f
    rw [ht k hk]; simp only [Option.bind_some]; rw [if_neg h0]
theorem toTable_eq (l : List ByteArray) (h : l.length ≤ 1048576) (k : Nat) (hk : l.length < k) : laws_toTable.f k l = some l := by
  unfold laws_toTable.f; rw [toStringS_eq l h k hk]; rfl
theorem eqTable_self (l : List ByteArray) (h : l.length ≤ 1048576) (k : Nat) (hk : l.length < k) : laws_eqTable.f k l l = some true := by
  unfold laws_eqTable.f; rw [eqStringS_self l h k hk]; rfl
/-! marks, as both sides ask for them -/
def dotDash (b : UInt8) : Bool := b == 46 || b == 45
def isMk (s : ByteArray) (lo hi : Int) : Bool := (decide (lo ≤ (s.size : Int)) && decide ((s.size : Int) ≤ hi)) && s.data.toList.all dotDash
theorem bt_is (s : ByteArray) (i : Nat) (h : i < s.size) (c : UInt8) (n : Int) (hc : (c.toNat : Int) = n) : (bt s (i : Int) = n) ↔ (s.data.toList[i]'(by rw [size_data]; exact h)) = c := by
  rw [bt_nat s i h, ← hc]
  constructor
  · intro e; exact UInt8.toNat_inj.1 (by omega)
  · intro e; rw [e]
theorem l2Marks_l0 (s : ByteArray) (hs : s.size ≤ 1048576) (lo hi : Int) (d : Nat) : ∀ (k i : Nat), i ≤ s.size → s.size - i = d → 2 * d + 1 < k → (s.data.toList.take i).all dotDash = true → spec_l2Marks.l0 k s lo hi (i : Int) = some (isMk s lo hi) := by
  have hsz := size_data s
  induction d with
  | zero =>
    intro k i hi' hd hk ht
    obtain ⟨k, rfl⟩ := pred_of_lt hk
    simp only [spec_l2Marks.l0]; rw [if_neg (by omega), l1In_eq]
    rw [List.take_of_length_le (by omega)] at ht
    simp only [Option.bind_some, isMk, ht, Bool.and_true]
  | succ d ih =>
    intro k i hi' hd hk ht
    obtain ⟨k, rfl⟩ := pred_of_lt hk
    have c1 : (i : Int) < (s.size : Int) := by omega
    have c2 : (0 : Int) ≤ (i : Int) := by omega
    have e : wrap64 ((i : Int) + 1) = ((i + 1 : Nat) : Int) := by rw [wr (by omega) (by omega)]; omega
    simp only [spec_l2Marks.l0, c1, if_true]
    by_cases h200 : (i : Int) ≤ hi
    · rw [if_pos h200]
      simp only [c2, if_true, e]
      have hlt : i < s.data.toList.length := by omega
      have next : dotDash (s.data.toList[i]) = true → spec_l2Marks.l0 k s lo hi ((i + 1 : Nat) : Int) = some (isMk s lo hi) := fun hb => ih k (i + 1) (by omega) (by omega) (by omega) (by
        rw [List.take_succ_eq_append_getElem hlt, List.all_append, ht]; simp only [List.all_cons, List.all_nil, hb, Bool.and_true])
      by_cases h0 : bt s (i : Int) = 46
      · rw [if_pos h0]
        exact next (by rw [bt_is s i (by omega) 46 46 (by decide)] at h0; rw [h0]; decide)
      · rw [if_neg h0]
        by_cases h1 : bt s (i : Int) = 45
        · rw [if_pos h1]
          exact next (by rw [bt_is s i (by omega) 45 45 (by decide)] at h1; rw [h1]; decide)
        · rw [if_neg h1]
          rw [bt_is s i (by omega) 46 46 (by decide)] at h0
          rw [bt_is s i (by omega) 45 45 (by decide)] at h1
          have hm : s.data.toList[i] ∈ s.data.toList := List.getElem_mem _
          have hf : s.data.toList.all dotDash = false := by
            rw [List.all_eq_false]; exact ⟨_, hm, by simp only [dotDash, Bool.or_eq_true, beq_iff_eq, h0, h1, or_self, not_false_eq_true]⟩
          simp only [isMk, hf, Bool.and_false]
    · rw [if_neg h200]
      have hn : decide ((s.size : Int) ≤ hi) = false := by simp; omega
      rw [l1In_eq]
      simp only [Option.bind_some, isMk, hn, Bool.and_false, Bool.false_and]
theorem l2Marks_eq (s : ByteArray) (hs : s.size ≤ 1048576) (lo hi : Int) (k : Nat) (hk : 2 * s.size + 1 < k) : spec_l2Marks.f k s lo hi = some (isMk s lo hi) := by
  unfold spec_l2Marks.f
  exact l2Marks_l0 s hs lo hi s.size k 0 (by omega) (by omega) hk (by simp)
theorem areMarks_eq (s : ByteArray) (hs : s.size ≤ 1048576) (lo hi : Int) : impl_areMarks.f s lo hi = some (isMk s lo hi) := by
  unfold impl_areMarks.f
  rw [in_eq]
  simp only [Option.bind_some]
  by_cases h : (decide (lo ≤ (s.size : Int)) && decide ((s.size : Int) ≤ hi)) = true
  · rw [if_pos h]
    unfold strings_Trim.f
    rw [if_pos (by omega), if_pos (by decide), if_pos (by decide)]
    simp only [Option.bind_some]
    rw [toList_nil]
    have e : (Lib.trimS s.data.toList [46, 45]).isEmpty = s.data.toList.all dotDash := by
      rw [Bool.eq_iff_iff, List.isEmpty_iff, trimS_nil]
      have : (fun x => [46, 45].contains x) = dotDash := by
        funext x
        simp [dotDash, List.contains_eq_mem]
        rfl
      rw [this]
    show some (Lib.trimS s.data.toList [46, 45]).isEmpty = _
    rw [e]
    simp only [isMk, h, Bool.true_and]
  · rw [if_neg h]
    simp only [isMk, (Bool.not_eq_true _).mp h, Bool.false_and]
theorem in_eq' (a b c : Int) : impl_in.f a b c = some (decide (b ≤ a) && decide (a ≤ c)) := in_eq a b c
/-! a table, as both sides ask for it -/
def has (l : List ByteArray) (a : ByteArray) : Bool := l.any fun b => a.toList == b.toList
def goodT : List ByteArray → List ByteArray → Bool
  | _, [] => true
  | seen, a :: t => isMk a 1 5 && (!has seen a && goodT (seen ++ [a]) t)
def isTab (l : List ByteArray) : Bool := (decide (1 ≤ (l.length : Int)) && decide ((l.length : Int) ≤ 10)) && goodT [] l
theorem take_snoc {α : Type} (l : List α) (i : Nat) (h : i < l.length) : l.take (i + 1) = l.take i ++ [l[i]] := List.take_succ_eq_append_getElem h
theorem drop_cons {α : Type} (l : List α) (i : Nat) (h : i < l.length) : l.drop i = l[i] :: l.drop (i + 1) := List.drop_eq_getElem_cons h
theorem has_take (l : List ByteArray) (a : ByteArray) (i : Nat) (h : i < l.length) : has (l.take (i + 1)) a = (has (l.take i) a || (a.toList == l[i].toList)) := by
  unfold has
  rw [take_snoc l i h, List.any_append]; simp only [List.any_cons, List.any_nil, Bool.or_false]
/-- where a text stands in a list first, or -1 -/
def placeN (l : List ByteArray) (a : ByteArray) : Int := match l.findIdx? (fun b => a.toList == b.toList) with
  | some i => (i : Int)
  | none => -1
theorem place_hit (l : List ByteArray) (a : ByteArray) (i : Nat) (hi : i < l.length) (h1 : has (l.take i) a = false) (h2 : a.toList = l[i].toList) : placeN l a = (i : Int) := by
  unfold placeN
  have : l.findIdx? (fun b => a.toList == b.toList) = some i := by
    rw [List.findIdx?_eq_some_iff_getElem]
    refine ⟨hi, by simpa using h2, fun j hj => ?_⟩
    intro hc
    have hm : l[j] ∈ l.take i := by
      rw [List.mem_take_iff_getElem]
      exact ⟨j, by omega, rfl⟩
    have ht : has (l.take i) a = true := List.any_eq_true.2 ⟨_, hm, hc⟩
    rw [h1] at ht; cases ht
  rw [this]
theorem place_none (l : List ByteArray) (a : ByteArray) (h : has l a = false) : placeN l a = -1 := by
  unfold placeN
  have : l.findIdx? (fun b => a.toList == b.toList) = none := by
    rw [List.findIdx?_eq_none_iff]
    intro x hx
    have := List.any_eq_false.1 h x hx
    simpa using this
  rw [this]
theorem l2Place_l0 (l : List ByteArray) (hl : l.length ≤ 1048576) (a : ByteArray) (d : Nat) : ∀ (k i : Nat), i ≤ l.length → l.length - i = d → d < k → has (l.take i) a = false → spec_l2Place.l0 k l a (i : Int) = some (placeN l a) := by
  induction d with
  | zero =>
    intro k i hi hd hk ht
    obtain ⟨k, rfl⟩ := pred_of_lt hk
    simp only [spec_l2Place.l0]; rw [if_neg (by omega)]
    rw [List.take_of_length_le (by omega)] at ht
    rw [place_none l a ht]
  | succ d ih =>
    intro k i hi hd hk ht
    obtain ⟨k, rfl⟩ := pred_of_lt hk
    have hlt : i < l.length := by omega
    simp only [spec_l2Place.l0]; rw [if_pos (by omega), if_pos (by omega), rdS_get l i hlt]
    by_cases hc : l[i].toList = a.toList
    · rw [if_pos hc, place_hit l a i hlt ht hc.symm]
    · rw [if_neg hc, wr (by omega) (by omega)]
      have e : ((i : Int) + 1) = ((i + 1 : Nat) : Int) := by omega
      rw [e]
      refine ih k (i + 1) (by omega) (by omega) (by omega) ?_
      rw [has_take l a i hlt, ht, Bool.false_or, beq_eq_false_iff_ne]
      exact fun e => hc e.symm
theorem l2Place_eq (l : List ByteArray) (hl : l.length ≤ 1048576) (a : ByteArray) (k : Nat) (hk : l.length < k) : spec_l2Place.f k l a = some (placeN l a) := by
  unfold spec_l2Place.f
  exact l2Place_l0 l hl a l.length k 0 (by omega) (by omega) hk (by simp [has])
theorem sIndex_l0 (l : List ByteArray) (hl : l.length ≤ 1048576) (a : ByteArray) (d : Nat) : ∀ (k i : Nat), i ≤ l.length → l.length - i = d → d < k → has (l.take i) a = false → slices_Index_string_string.l0 k l a (l.length : Int) (i : Int) = some (placeN l a) := by
  induction d with
  | zero =>
    intro k i hi hd hk ht
    obtain ⟨k, rfl⟩ := pred_of_lt hk
    simp only [slices_Index_string_string.l0]; rw [if_neg (by omega)]
    rw [List.take_of_length_le (by omega)] at ht
    rw [place_none l a ht]
  | succ d ih =>
    intro k i hi hd hk ht
    obtain ⟨k, rfl⟩ := pred_of_lt hk
    have hlt : i < l.length := by omega
    simp only [slices_Index_string_string.l0]; rw [if_pos (by omega), if_pos (by omega), if_pos (by omega), rdS_get l i hlt]
    by_cases hc : a.toList = l[i].toList
    · rw [if_pos hc, place_hit l a i hlt ht hc]
    · rw [if_neg hc, wr (by omega) (by omega)]
      have e : ((i : Int) + 1) = ((i + 1 : Nat) : Int) := by omega
      rw [e]
      refine ih k (i + 1) (by omega) (by omega) (by omega) ?_
      rw [has_take l a i hlt, ht, Bool.false_or, beq_eq_false_iff_ne]
      exact hc
theorem sIndex_eq (l : List ByteArray) (hl : l.length ≤ 1048576) (a : ByteArray) (k : Nat) (hk : l.length < k) : slices_Index_string_string.f k l a = some (placeN l a) := by
  unfold slices_Index_string_string.f
  exact sIndex_l0 l hl a l.length k 0 (by omega) (by omega) hk (by simp [has])
theorem place_has (l : List ByteArray) (a : ByteArray) : decide (placeN l a ≥ 0) = has l a := by
  by_cases h : has l a = true
  · obtain ⟨x, hx, hb⟩ := List.any_eq_true.1 h
    unfold placeN
    cases hf : l.findIdx? (fun b => a.toList == b.toList) with
    | none =>
      have := List.findIdx?_eq_none_iff.1 hf x hx
      rw [hb] at this; cases this
    | some i => rw [h]; simp
  · rw [place_none l a ((Bool.not_eq_true _).mp h), (Bool.not_eq_true _).mp h]; decide
theorem sContains_eq (l : List ByteArray) (hl : l.length ≤ 1048576) (a : ByteArray) (k : Nat) (hk : l.length < k) : slices_Contains_string_string.f k l a = some (has l a) := by
  unfold slices_Contains_string_string.f
  rw [sIndex_eq l hl a k hk]
  simp only [Option.bind_some]
  rw [place_has]
theorem place_self (l : List ByteArray) (i : Nat) (hi : i < l.length) : (placeN l l[i] = (i : Int)) ↔ has (l.take i) l[i] = false := by
  constructor
  · intro h
    by_cases hc : has (l.take i) l[i] = true
    · exfalso
      obtain ⟨x, hx, hb⟩ := List.any_eq_true.1 hc
      obtain ⟨j, hj, rfl⟩ := List.getElem_of_mem hx
      rw [List.length_take] at hj
      unfold placeN at h
      cases hf : l.findIdx? (fun b => l[i].toList == b.toList) with
      | none => rw [hf] at h; simp at h
      | some m =>
        rw [hf] at h
        have hm : m = i := by
          have h' : (m : Int) = (i : Int) := h
          omega
        subst hm
        have := (List.findIdx?_eq_some_iff_getElem.1 hf).2.2 j (by omega)
        rw [List.getElem_take] at hb
        exact this hb
    · exact (Bool.not_eq_true _).mp hc
  · intro h
    exact place_hit l l[i] i hi h rfl
theorem l2Table_l0 (l : List ByteArray) (hl : l.length ≤ 1048576) (hs : ∀ s ∈ l, s.size ≤ 1048576) (M : Nat) (hM : l.length + 2097160 ≤ M) (d : Nat) : ∀ (k i : Nat), i ≤ l.length → l.length - i = d → M + d < k → spec_l2Table.l0 k (i : Int) l = some (goodT (l.take i) (l.drop i)) := by
  induction d with
  | zero =>
    intro k i hi hd hk
    obtain ⟨k, rfl⟩ := pred_of_lt hk
    simp only [spec_l2Table.l0]; rw [if_neg (by omega), List.drop_eq_nil_of_le (by omega)]
    simp [goodT]
  | succ d ih =>
    intro k i hi hd hk
    obtain ⟨k, rfl⟩ := pred_of_lt hk
    have hlt : i < l.length := by omega
    have hz := hs _ (List.getElem_mem hlt)
    rw [drop_cons l i hlt]
    simp only [spec_l2Table.l0]; rw [if_pos (by omega), if_pos (by omega), rdS_get l i hlt, l2Marks_eq _ hz 1 5 k (by omega), l2Place_eq l hl _ k (by omega)]
    simp only [Option.bind_some, goodT]
    by_cases h1 : isMk l[i] 1 5 = true
    · rw [if_pos h1, h1, Bool.true_and]
      by_cases h2 : placeN l l[i] = (i : Int)
      · rw [if_pos h2, (place_self l i hlt).1 h2, wr (by omega) (by omega)]
        have e : ((i : Int) + 1) = ((i + 1 : Nat) : Int) := by omega
        rw [e, ih k (i + 1) (by omega) (by omega) (by omega), take_snoc l i hlt]
        simp
      · rw [if_neg h2]
        have : has (l.take i) l[i] = true := by
          by_cases hc : has (l.take i) l[i] = true
          · exact hc
          · exact absurd ((place_self l i hlt).2 ((Bool.not_eq_true _).mp hc)) h2
        rw [this]; simp
    · rw [if_neg h1, (Bool.not_eq_true _).mp h1]; simp
theorem l2Table_eq (l : List ByteArray) (hl : l.length ≤ 1048576) (hs : ∀ s ∈ l, s.size ≤ 1048576) (k : Nat) (hk : 4194400 ≤ k) : spec_l2Table.f k l = some (isTab l) := by
  unfold spec_l2Table.f
  rw [l1In_eq]
  simp only [Option.bind_some]
  by_cases h : (decide (1 ≤ (l.length : Int)) && decide ((l.length : Int) ≤ 10)) = true
  · rw [if_pos h]
    have h10 : l.length ≤ 10 := by simp only [Bool.and_eq_true, decide_eq_true_eq] at h; omega
    have := l2Table_l0 l hl hs (l.length + 2097160) (by omega) l.length k 0 (by omega) (by omega) (by omega)
    rw [List.take_zero, List.drop_zero] at this
    simp only [isTab, h, Bool.true_and]
    exact this
  · rw [if_neg h]; simp only [isTab, (Bool.not_eq_true _).mp h, Bool.false_and]
theorem isLetterMarks_eq (s : ByteArray) (hs : s.size ≤ 1048576) : impl_isLetterMarks.f s = some (isMk s 1 5) := by
  unfold impl_isLetterMarks.f
  rw [areMarks_eq s hs]; rfl
theorem isTable_l0 (l : List ByteArray) (hl : l.length ≤ 1048576) (hs : ∀ s ∈ l, s.size ≤ 1048576) (d : Nat) : ∀ (k i : Nat), i ≤ l.length → l.length - i = d → l.length + d < k →
    impl_isTable.l0 k l (l.length : Int) (i : Int) l = some (goodT (l.take i) (l.drop i) && (decide (1 ≤ (l.length : Int)) && decide ((l.length : Int) ≤ 10))) := by
  induction d with
  | zero =>
    intro k i hi hd hk
    obtain ⟨k, rfl⟩ := pred_of_lt hk
    simp only [impl_isTable.l0]; rw [if_neg (by omega), List.drop_eq_nil_of_le (by omega), in_eq]
    simp [goodT]
  | succ d ih =>
    intro k i hi hd hk
    obtain ⟨k, rfl⟩ := pred_of_lt hk
    have hlt : i < l.length := by omega
    have hz := hs _ (List.getElem_mem hlt)
    have c1 : (i : Int) ≤ (l.length : Int) := by omega
    rw [drop_cons l i hlt]
    simp only [impl_isTable.l0]; rw [if_pos (by omega), if_pos (by omega), if_pos (by omega), rdS_get l i hlt, isLetterMarks_eq _ hz]
    simp only [Option.bind_some, goodT]
    by_cases h1 : isMk l[i] 1 5 = true
    · rw [if_pos h1, h1, Bool.true_and, if_pos c1, Int.toNat_natCast, sContains_eq _ (by rw [List.length_take]; omega) _ k (by rw [List.length_take]; omega)]
      simp only [Option.bind_some]
      by_cases h2 : has (l.take i) l[i] = true
      · rw [if_pos h2, h2]; simp
      · rw [if_neg h2, (Bool.not_eq_true _).mp h2, wr (by omega) (by omega)]
        have e : ((i : Int) + 1) = ((i + 1 : Nat) : Int) := by omega
        rw [e, ih k (i + 1) (by omega) (by omega) (by omega), take_snoc l i hlt]
        simp
    · rw [if_neg h1, (Bool.not_eq_true _).mp h1]; simp
theorem isTable_eq (l : List ByteArray) (hl : l.length ≤ 1048576) (hs : ∀ s ∈ l, s.size ≤ 1048576) (k : Nat) (hk : 4194400 ≤ k) : impl_isTable.f k l = some (isTab l) := by
  unfold impl_isTable.f
  have := isTable_l0 l hl hs l.length k 0 (by omega) (by omega) (by omega)
  rw [List.take_zero, List.drop_zero] at this
  rw [show isTab l = (goodT [] l && (decide (1 ≤ (l.length : Int)) && decide ((l.length : Int) ≤ 10))) from Bool.and_comm _ _]
  exact this
/-! a message, as both sides ask for it -/
def mAt (s : ByteArray) (n : Nat) (i : Nat) : Bool := if bt s (i : Int) = 32 then (decide (i ≠ 0) && (decide (i ≠ s.size - 1) && decide (bt s ((i : Int) - 1) ≠ 32))) else (decide (97 ≤ bt s (i : Int)) && decide (bt s (i : Int) ≤ 96 + (n : Int)))
def mAll (s : ByteArray) (n : Nat) : Bool := (List.range s.size).all (mAt s n)
theorem mAll_bad (s : ByteArray) (n i : Nat) (hi : i < s.size) (h : mAt s n i = false) : mAll s n = false := by
  unfold mAll
  rw [List.all_eq_false]
  exact ⟨i, List.mem_range.2 hi, by rw [h]; decide⟩
theorem message_l0 (s : ByteArray) (hs : s.size ≤ 1048576) (l : List ByteArray) (hl : l.length ≤ 1048576) (d : Nat) : ∀ (k i : Nat), i ≤ s.size → s.size - i = d → d < k → (List.range i).all (mAt s l.length) = true →
    spec_l2Message.l0 k s (i : Int) l = some (mAll s l.length) ∧ impl_isMessage.l0 k s (s.size : Int) (i : Int) l = some (mAll s l.length && decide ((s.size : Int) ≤ 12)) := by
  induction d with
  | zero =>
    intro k i hi hd hk ht
    obtain ⟨k, rfl⟩ := pred_of_lt hk
    have : mAll s l.length = true := by unfold mAll; rw [show s.size = i by omega]; exact ht
    simp only [spec_l2Message.l0, impl_isMessage.l0]
    rw [if_neg (by omega), if_neg (by omega), this]
    simp
  | succ d ih =>
    intro k i hi hd hk ht
    obtain ⟨k, rfl⟩ := pred_of_lt hk
    have hb := bt_range s (i : Int)
    have c1 : (i : Int) < (s.size : Int) := by omega
    have c2 : (0 : Int) ≤ (i : Int) := by omega
    have e1 : wrap64 ((i : Int) + 1) = ((i + 1 : Nat) : Int) := by rw [wr (by omega) (by omega)]; omega
    have e2 : wrap64 ((i : Int) - 1) = (i : Int) - 1 := by rw [wr (by omega) (by omega)]
    have e3 : wrap64 ((s.size : Int) - 1) = (s.size : Int) - 1 := by rw [wr (by omega) (by omega)]
    have e4 : wrap64 (wrap64 (bt s (i : Int)) - 97) = bt s (i : Int) - 97 := by rw [wr (i := bt s (i : Int)) (by omega) (by omega), wr (by omega) (by omega)]
    have e5 : wrap64 ((l.length : Int) - 1) = (l.length : Int) - 1 := by rw [wr (by omega) (by omega)]
    have good : mAt s l.length i = true → spec_l2Message.l0 k s ((i + 1 : Nat) : Int) l = some (mAll s l.length) ∧ impl_isMessage.l0 k s (s.size : Int) ((i + 1 : Nat) : Int) l = some (mAll s l.length && decide ((s.size : Int) ≤ 12)) := fun hm =>
      ih k (i + 1) (by omega) (by omega) (by omega) (by rw [List.range_succ, List.all_append, ht]; simp only [List.all_cons, List.all_nil, hm, Bool.and_true])
    have bad : mAt s l.length i = false → some false = some (mAll s l.length) ∧ some false = some (mAll s l.length && decide ((s.size : Int) ≤ 12)) := fun hm => by
      rw [mAll_bad s l.length i (by omega) hm]; simp
    simp only [spec_l2Message.l0, impl_isMessage.l0, c1, c2, if_true, e1, e2, e3, e4, e5, l1In_eq, in_eq, Option.bind_some]
    by_cases h32 : bt s (i : Int) = 32
    · simp only [h32, if_true]
      by_cases h0 : (i : Int) = 0
      · rw [if_pos h0, if_pos h0]
        exact bad (by unfold mAt; rw [if_pos h32]; simp; omega)
      · rw [if_neg h0, if_neg h0]
        by_cases hz : (i : Int) = (s.size : Int) - 1
        · rw [if_pos hz, if_pos hz]
          exact bad (by unfold mAt; rw [if_pos h32]; simp; omega)
        · rw [if_neg hz, if_neg hz]
          simp only [show (0 : Int) ≤ (i : Int) - 1 by omega, show (i : Int) - 1 < (s.size : Int) by omega, if_true]
          by_cases hp : bt s ((i : Int) - 1) = 32
          · rw [if_pos hp, if_pos hp]
            exact bad (by unfold mAt; rw [if_pos h32]; simp [hp])
          · rw [if_neg hp, if_neg hp]
            exact good (by unfold mAt; rw [if_pos h32]; simp [hp]; omega)
    · simp only [h32, if_false]
      by_cases hr : (decide (0 ≤ bt s (i : Int) - 97) && decide (bt s (i : Int) - 97 ≤ (l.length : Int) - 1)) = true
      · rw [if_pos hr, if_pos hr]
        simp only [Bool.and_eq_true, decide_eq_true_eq] at hr
        exact good (by unfold mAt; rw [if_neg h32]; simp only [Bool.and_eq_true, decide_eq_true_eq]; omega)
      · rw [if_neg hr, if_neg hr]
        simp only [Bool.and_eq_true, decide_eq_true_eq] at hr
        exact bad (by
          unfold mAt; rw [if_neg h32, Bool.eq_false_iff]
          simp only [ne_eq, Bool.and_eq_true, decide_eq_true_eq]; omega)
def isMsg (l : List ByteArray) (s : ByteArray) : Bool := decide (s.size ≤ 12) && mAll s l.length
theorem l2Message_eq (l : List ByteArray) (hl : l.length ≤ 1048576) (s : ByteArray) (hs : s.size ≤ 1048576) (k : Nat) (hk : s.size < k) : spec_l2Message.f k l s = some (isMsg l s) := by
  unfold spec_l2Message.f isMsg
  by_cases h : (s.size : Int) > 12
  · rw [if_pos h]; simp [show ¬ s.size ≤ 12 by omega]
  · rw [if_neg h]
    have := (message_l0 s hs l hl s.size k 0 (by omega) (by omega) hk (by simp)).1
    simp only [Int.natCast_zero] at this
    rw [this]; simp [show s.size ≤ 12 by omega]
theorem isMessage_eq (l : List ByteArray) (hl : l.length ≤ 1048576) (s : ByteArray) (hs : s.size ≤ 1048576) (k : Nat) (hk : s.size < k) : impl_isMessage.f k l s = some (isMsg l s) := by
  unfold impl_isMessage.f isMsg
  have := (message_l0 s hs l hl s.size k 0 (by omega) (by omega) hk (by simp)).2
  simp only [Int.natCast_zero] at this
  rw [this, Bool.and_comm]
  have e : decide ((s.size : Int) ≤ 12) = decide (s.size ≤ 12) := by rw [decide_eq_decide]; omega
  rw [e]
/-- no two letters of a table that stand at one place are equally long -/
theorem goodT_mem : ∀ (l seen : List ByteArray), goodT seen l = true → (∀ c ∈ l, 1 ≤ c.size ∧ c.size ≤ 5 ∧ ∀ b ∈ seen, c ≠ b) ∧ l.Nodup
  | [], _, _ => ⟨fun c h => absurd h (by simp), List.nodup_nil⟩
  | a :: t, seen, h => by
    simp only [goodT, Bool.and_eq_true, Bool.not_eq_true'] at h
    obtain ⟨h1, h2, h3⟩ := h
    obtain ⟨i1, i2⟩ := goodT_mem t (seen ++ [a]) h3
    refine ⟨fun c hc => ?_, ?_⟩
    · rcases List.mem_cons.1 hc with rfl | hc
      · simp only [isMk, Bool.and_eq_true, decide_eq_true_eq] at h1
        refine ⟨by omega, by omega, fun b hb e => ?_⟩
        have := List.any_eq_false.1 h2 b hb
        rw [e] at this; simp at this
      · obtain ⟨a1, a2, a3⟩ := i1 c hc
        exact ⟨a1, a2, fun b hb => a3 b (by simp [hb])⟩
    · rw [List.nodup_cons]
      exact ⟨fun hm => (i1 a hm).2.2 a (by simp) rfl, i2⟩
theorem isTab_mem (l : List ByteArray) (h : isTab l = true) : (∀ c ∈ l, 1 ≤ c.size ∧ c.size ≤ 5) ∧ l.Nodup ∧ 1 ≤ l.length ∧ l.length ≤ 10 := by
  simp only [isTab, Bool.and_eq_true, decide_eq_true_eq] at h
  obtain ⟨h1, h2⟩ := goodT_mem l [] h.2
  exact ⟨fun c hc => ⟨(h1 c hc).1, (h1 c hc).2.1⟩, h2, by omega, by omega⟩
/-! letters of a table, and their marks -/
def letOk (n : Nat) (c : UInt8) : Bool := decide (97 ≤ c.toNat) && decide (c.toNat < 97 + n)
def mk1 (T : List ByteArray) (c : UInt8) : ByteArray := T.getD (c.toNat - 97) ByteArray.empty
def bareB (T : List ByteArray) : List UInt8 → ByteArray → ByteArray
  | [], acc => acc
  | c :: L, acc => bareB T L (acc ++ mk1 T c)
def blen (T : List ByteArray) : List UInt8 → Nat
  | [] => 0
  | c :: L => (mk1 T c).size + blen T L
theorem bareB_size (T : List ByteArray) : ∀ (L : List UInt8) (acc : ByteArray), (bareB T L acc).size = acc.size + blen T L
  | [], acc => rfl
  | c :: L, acc => by simp only [bareB, blen]; rw [bareB_size T L, ByteArray.size_append]; omega
theorem mk1_size (T : List ByteArray) (hT : ∀ c ∈ T, c.size ≤ 5) (c : UInt8) : (mk1 T c).size ≤ 5 := by
  unfold mk1
  rw [List.getD_eq_getElem?_getD]
  by_cases h : c.toNat - 97 < T.length
  · rw [List.getElem?_eq_getElem h]; exact hT _ (List.getElem_mem h)
  · rw [List.getElem?_eq_none (by omega)]; exact Nat.zero_le 5
theorem blen_le (T : List ByteArray) (hT : ∀ c ∈ T, c.size ≤ 5) : ∀ L : List UInt8, blen T L ≤ 5 * L.length
  | [] => Nat.le_refl _
  | c :: L => by
    have := mk1_size T hT c
    have := blen_le T hT L
    simp only [blen, List.length_cons]; omega
theorem byte_lt (c : UInt8) : c.toNat < 256 := c.toNat_lt
theorem let_num (c : UInt8) : wrap64 (wrap64 ((c.toNat : Nat) : Int) - 97) = ((c.toNat : Nat) : Int) - 97 := by
  have := byte_lt c
  rw [wr (i := ((c.toNat : Nat) : Int)) (by omega) (by omega), wr (by omega) (by omega)]
theorem rd_mk1 (T : List ByteArray) (c : UInt8) (h : 97 ≤ c.toNat) : rdOf ByteArray.empty T (((c.toNat : Nat) : Int) - 97) = mk1 T c := by
  unfold mk1 rdOf
  rw [show (((c.toNat : Nat) : Int) - 97).toNat = c.toNat - 97 by omega]
theorem letOk_le {n : Nat} {c : UInt8} (h : letOk n c = true) : 97 ≤ c.toNat ∧ c.toNat < 97 + n := by
  simpa [letOk] using h
/-! a text as a list of bytes, and as a list of numbers -/
def txt (l : List UInt8) : ByteArray := ⟨l.toArray⟩
theorem txt_data (l : List UInt8) : (txt l).data.toList = l := rfl
theorem txt_size (l : List UInt8) : (txt l).size = l.length := by rw [← size_data, txt_data]
theorem txt_of (s : ByteArray) : txt s.data.toList = s := rfl
theorem txt_app (l m : List UInt8) : txt l ++ txt m = txt (l ++ m) := by
  apply ByteArray.ext
  apply Array.toList_inj.1
  rw [ByteArray.data_append, Array.toList_append]
  rfl
/-! texts joined by one byte -/
/-- the texts joined -/
def joinB (c : UInt8) (l : List ByteArray) : ByteArray := txt (Lib.join (l.map (·.data.toList)) [c])
theorem joinL_snoc (c : List UInt8) (l : List (List UInt8)) (x : List UInt8) (h : l ≠ []) : Lib.join (l ++ [x]) c = Lib.join l c ++ c ++ x := by
  unfold Lib.join
  induction l with
  | nil => exact absurd rfl h
  | cons a l ih =>
    cases l with
    | nil => simp [List.intercalate, List.intersperse]
    | cons b l =>
      have := ih (by simp)
      simp only [List.intercalate, List.cons_append, List.intersperse, List.flatten_cons] at this ⊢
      rw [this]; simp
theorem joinB_one (c : UInt8) (x : ByteArray) : joinB c [x] = x := by
  unfold joinB
  rw [List.map_cons, List.map_nil, Lib.join_one, txt_of]
theorem joinB_snoc (c : UInt8) (l : List ByteArray) (x : ByteArray) (h : l ≠ []) : joinB c (l ++ [x]) = (joinB c l ++ ⟨#[c]⟩) ++ x := by
  unfold joinB
  rw [List.map_append, List.map_cons, List.map_nil, joinL_snoc _ _ _ (by simpa using h)]
  rw [← txt_app, ← txt_app, txt_of]; rfl
/-- how much the joined texts take -/
def sumZ (l : List ByteArray) : Int := (l.map fun s => (s.size : Int)).sum
theorem sumZ_snoc (l : List ByteArray) (x : ByteArray) : sumZ (l ++ [x]) = sumZ l + (x.size : Int) := by simp [sumZ]
theorem sumZ_nonneg (l : List ByteArray) : 0 ≤ sumZ l := by
  induction l with
  | nil => simp [sumZ]
  | cons a l ih => simp only [sumZ, List.map_cons, List.sum_cons] at ih ⊢; omega
theorem joinL_len (c : UInt8) : ∀ l : List (List UInt8), l ≠ [] → (Lib.join l [c]).length + 1 = (l.map fun s => s.length + 1).sum
  | [], h => absurd rfl h
  | [a], _ => by rw [Lib.join_one]; simp
  | a :: b :: l, _ => by
    have ih := joinL_len c (b :: l) (by simp)
    have e : Lib.join (a :: b :: l) [c] = a ++ ([c] ++ Lib.join (b :: l) [c]) := by
      unfold Lib.join
      simp [List.intercalate, List.intersperse]
    rw [e, List.length_append, List.length_append, List.map_cons, List.sum_cons, ← ih, List.length_singleton]
    omega
theorem sums (l : List ByteArray) : ((((l.map (·.data.toList)).map fun s => s.length + 1).sum : Nat) : Int) = sumZ l + (l.length : Int) := by
  induction l with
  | nil => rfl
  | cons a l ih =>
    have := size_data a
    simp only [sumZ, List.map_cons, List.sum_cons, List.length_cons] at ih ⊢
    omega
theorem joinB_size (c : UInt8) (l : List ByteArray) (h : l ≠ []) : ((joinB c l).size : Int) = sumZ l + ((l.length : Int) - 1) := by
  have h1 := joinL_len c (l.map (·.data.toList)) (by simpa using h)
  have h2 := sums l
  have h3 : (joinB c l).size = (Lib.join (l.map (·.data.toList)) [c]).length := txt_size _
  omega
theorem sumZ_append (l m : List ByteArray) : sumZ (l ++ m) = sumZ l + sumZ m := by simp [sumZ]
theorem sumZ_take (l : List ByteArray) (i : Nat) : sumZ (l.take i) ≤ sumZ l := by
  have h := sumZ_append (l.take i) (l.drop i)
  rw [List.take_append_drop] at h
  have := sumZ_nonneg (l.drop i)
  omega
theorem sumZ_le (l : List ByteArray) (h : ∀ s ∈ l, s.size ≤ 1048576) : sumZ l ≤ 1048576 * (l.length : Int) := by
  induction l with
  | nil => simp [sumZ]
  | cons a l ih =>
    have h1 := ih fun s hs => h s (List.mem_cons_of_mem _ hs)
    have h2 := h a List.mem_cons_self
    simp only [sumZ, List.map_cons, List.sum_cons, List.length_cons] at h1 ⊢
    omega
theorem sumZ_nil : sumZ [] = 0 := rfl
attribute [local irreducible] sumZ
theorem take_snocB (l : List ByteArray) (i : Nat) (h : i < l.length) : l.take (i + 1) = l.take i ++ [l[i]] := List.take_succ_eq_append_getElem h
theorem join_full (c : UInt8) (l : List ByteArray) (hl : l.length ≤ 1048576) (h : l ≠ []) (hz : sumZ l + ((l.length : Int) - 1) ≤ 100000000000) : strings_Join.f l ⟨#[c]⟩ = some (joinB c l) := by
  have hs := joinB_size c l h
  have hsz : (joinB c l).size = (Lib.join (l.map (·.data.toList)) [c]).length := txt_size _
  unfold strings_Join.f
  rw [if_pos (by omega)]
  show (if (Lib.join (l.map (·.data.toList)) [c]).length ≤ 140737488355328 then some (joinB c l) else none) = _
  rw [if_pos (by omega)]
/-! a message's signal, as both sides write it -/
def okR (n : Nat) : Bool → List UInt8 → Bool
  | p, [] => p
  | p, c :: l => if c = 32 then p && okR n false l else letOk n c && okR n true l
def outS (T : List ByteArray) : Bool → List UInt8 → ByteArray → ByteArray
  | _, [], acc => acc
  | p, c :: l, acc => if c = 32 then outS T false l (acc ++ (⟨#[47]⟩ : ByteArray)) else outS T true l ((if p = true then acc ++ (⟨#[32]⟩ : ByteArray) else acc) ++ mk1 T c)
theorem bt_c (s : ByteArray) (i : Nat) (h : i < s.size) (c : UInt8) (hc : s.data.toList[i]'(by rw [size_data]; exact h) = c) : bt s (i : Int) = ((c.toNat : Nat) : Int) := by rw [bt_nat s i h, hc]
theorem c32 (c : UInt8) : (((c.toNat : Nat) : Int) = 32) ↔ c = 32 := byte_num c 32 32 rfl
/-- what stands ahead of a place: is it a letter -/
def prevL (s : ByteArray) (i : Nat) : Bool := decide (i ≠ 0) && decide (bt s ((i : Int) - 1) ≠ 32)
theorem okR_at (s : ByteArray) (n : Nat) (hall : mAll s n = true) (hpos : 0 < s.size) (d : Nat) : ∀ (i : Nat), i ≤ s.size → s.size - i = d → okR n (prevL s i) (s.data.toList.drop i) = true := by
  have hsz := size_data s
  have hm : ∀ i, i < s.size → mAt s n i = true := fun i hi => List.all_eq_true.1 hall i (List.mem_range.2 hi)
  induction d with
  | zero =>
    intro i hi hd
    rw [List.drop_eq_nil_of_le (by omega)]
    show prevL s i = true
    have h := hm (i - 1) (by omega)
    have e : ((i - 1 : Nat) : Int) = (i : Int) - 1 := by omega
    unfold mAt at h
    rw [e] at h
    unfold prevL
    by_cases h32 : bt s ((i : Int) - 1) = 32
    · rw [if_pos h32] at h
      simp only [Bool.and_eq_true, decide_eq_true_eq] at h
      omega
    · simp [h32]; omega
  | succ d ih =>
    intro i hi hd
    have hlt : i < s.data.toList.length := by omega
    have h := hm i (by omega)
    have hn := ih (i + 1) (by omega) (by omega)
    rw [List.drop_eq_getElem_cons hlt]
    obtain ⟨c, hc⟩ : ∃ c, s.data.toList[i] = c := ⟨_, rfl⟩
    have hb := bt_c s i (by omega) c hc
    have hp1 : prevL s (i + 1) = decide (bt s (i : Int) ≠ 32) := by
      unfold prevL
      rw [show ((i + 1 : Nat) : Int) - 1 = (i : Int) by omega]
      simp
    rw [hc]
    unfold mAt at h
    rw [hp1] at hn
    simp only [okR]
    by_cases h32 : bt s (i : Int) = 32
    · have hc32 : c = 32 := by rw [hb] at h32; exact (c32 c).1 h32
      rw [if_pos h32] at h
      rw [if_pos hc32]
      simp only [h32, ne_eq, not_true_eq_false, decide_false] at hn
      simp only [Bool.and_eq_true, decide_eq_true_eq] at h
      rw [hn, Bool.and_true]
      unfold prevL
      simp only [Bool.and_eq_true, decide_eq_true_eq]
      exact ⟨h.1, h.2.2⟩
    · have hc32 : ¬ c = 32 := fun e => h32 (by rw [hb]; exact (c32 c).2 e)
      rw [if_neg h32] at h
      rw [if_neg hc32]
      simp only [h32, ne_eq, not_false_eq_true, decide_true] at hn
      rw [hn, Bool.and_true]
      simp only [Bool.and_eq_true, decide_eq_true_eq, hb] at h
      simp only [letOk, Bool.and_eq_true, decide_eq_true_eq]
      omega
def encB (T : List ByteArray) (m : ByteArray) : ByteArray := outS T false m.data.toList (⟨#[]⟩ : ByteArray)
theorem sEnc_l0 (T : List ByteArray) (hT : T.length ≤ 10) (hT5 : ∀ c ∈ T, c.size ≤ 5) (m : ByteArray) (hm : m.size ≤ 1048576) (hall : mAll m T.length = true) (d : Nat) : ∀ (k i : Nat) (acc : ByteArray), i ≤ m.size → m.size - i = d → d < k → acc.size + 6 * d ≤ 5000 →
    spec_l2Encode.l0 k m acc (i : Int) T = some (outS T (prevL m i) (m.data.toList.drop i) acc) := by
  have hsz := size_data m
  have hma : ∀ i, i < m.size → mAt m T.length i = true := fun i hi => List.all_eq_true.1 hall i (List.mem_range.2 hi)
  induction d with
  | zero =>
    intro k i acc hi hd hk ha
    obtain ⟨k, rfl⟩ := pred_of_lt hk
    simp only [spec_l2Encode.l0]
    rw [if_neg (by omega), List.drop_eq_nil_of_le (by omega)]; rfl
  | succ d ih =>
    intro k i acc hi hd hk ha
    obtain ⟨k, rfl⟩ := pred_of_lt hk
    have hlt : i < m.data.toList.length := by omega
    have h := hma i (by omega)
    obtain ⟨c, hc⟩ : ∃ c, m.data.toList[i] = c := ⟨_, rfl⟩
    have hb := bt_c m i (by omega) c hc
    have hp1 : prevL m (i + 1) = decide (bt m (i : Int) ≠ 32) := by
      unfold prevL
      rw [show ((i + 1 : Nat) : Int) - 1 = (i : Int) by omega]
      simp
    have c1 : (i : Int) < (m.size : Int) := by omega
    have c2 : (0 : Int) ≤ (i : Int) := by omega
    have e1 : wrap64 ((i : Int) + 1) = ((i + 1 : Nat) : Int) := by rw [wr (by omega) (by omega)]; omega
    have z47 : (⟨#[47]⟩ : ByteArray).size = 1 := rfl
    have z32 : (⟨#[32]⟩ : ByteArray).size = 1 := rfl
    rw [List.drop_eq_getElem_cons hlt, hc]
    unfold mAt at h
    by_cases h32 : bt m (i : Int) = 32
    · have hc32 : c = 32 := by rw [hb] at h32; exact (c32 c).1 h32
      have n := ih k (i + 1) (acc ++ (⟨#[47]⟩ : ByteArray)) (by clear e1; omega) (by clear e1; omega) (by clear e1; omega) (by rw [ByteArray.size_append, z47]; clear e1; omega)
      rw [hp1] at n
      simp only [h32, ne_eq, not_true_eq_false, decide_false] at n
      have g1 : acc.size + 1 ≤ 9223372036854775807 := by clear e1 n ih; omega
      simp only [spec_l2Encode.l0, c1, c2, if_true, h32, g1, e1, outS, hc32]
      exact n
    · have hc32 : ¬ c = 32 := fun e => h32 (by rw [hb]; exact (c32 c).2 e)
      rw [if_neg h32] at h
      simp only [Bool.and_eq_true, decide_eq_true_eq, hb] at h
      have h97 : 97 ≤ c.toNat ∧ c.toNat < 97 + T.length := by clear e1 ih; omega
      have h5 := mk1_size T hT5 c
      have g2 : (0 : Int) ≤ ((c.toNat : Nat) : Int) - 97 := by clear e1 ih; omega
      have g3 : ((c.toNat : Nat) : Int) - 97 < (T.length : Int) := by clear e1 ih; omega
      have n32 : (((c.toNat : Nat) : Int) = 32) = False := eq_false (fun e => hc32 ((c32 c).1 e))
      have hpn : prevL m (i + 1) = true := by rw [hp1]; simp [h32]
      simp only [spec_l2Encode.l0, c1, c2, if_true, hb, n32, if_false, let_num, g2, g3, rd_mk1 T c h97.1, e1, outS, hc32]
      by_cases h0 : (i : Int) > 0
      · have e2 : wrap64 ((i : Int) - 1) = (i : Int) - 1 := by clear e1 ih; rw [wr (by omega) (by omega)]
        have g4 : (0 : Int) ≤ (i : Int) - 1 := by clear e1 e2 ih; omega
        have g5 : (i : Int) - 1 < (m.size : Int) := by clear e1 e2 ih; omega
        rw [if_pos h0]
        simp only [e2, g4, g5, if_true]
        clear e1 e2
        by_cases hp : bt m ((i : Int) - 1) = 32
        · have hpp : prevL m i = false := by unfold prevL; simp [hp]
          have n := ih k (i + 1) (acc ++ mk1 T c) (by omega) (by omega) (by omega) (by rw [ByteArray.size_append]; omega)
          rw [hpn] at n
          rw [if_pos hp, if_pos (by clear ih n; omega), hpp]
          exact n
        · have hpp : prevL m i = true := by unfold prevL; simp [hp]; omega
          have hz : (acc ++ (⟨#[32]⟩ : ByteArray)).size = acc.size + 1 := by rw [ByteArray.size_append, z32]
          have n := ih k (i + 1) ((acc ++ (⟨#[32]⟩ : ByteArray)) ++ mk1 T c) (by omega) (by omega) (by omega) (by rw [ByteArray.size_append, hz]; omega)
          rw [hpn] at n
          rw [if_neg hp, if_pos (by clear ih n; omega), if_pos (by clear ih n; omega), hpp, if_pos rfl]
          exact n
      · have hpp : prevL m i = false := by
          have hi0 : i = 0 := by
            rcases Nat.eq_zero_or_pos i with h' | h'
            · exact h'
            · exact absurd (Int.natCast_pos.2 h') h0
          unfold prevL
          rw [hi0]; simp
        have n := ih k (i + 1) (acc ++ mk1 T c) (by clear e1; omega) (by clear e1; omega) (by clear e1; omega) (by rw [ByteArray.size_append]; clear e1; omega)
        rw [hpn] at n
        rw [if_neg h0, if_pos (by clear ih n e1; omega), hpp]
        exact n
theorem l2Encode_eq (T : List ByteArray) (hT : T.length ≤ 10) (hT5 : ∀ c ∈ T, c.size ≤ 5) (m : ByteArray) (hm : m.size ≤ 100) (hall : mAll m T.length = true) (k : Nat) (hk : m.size < k) : spec_l2Encode.f k T m = some (encB T m) := by
  obtain ⟨e, he⟩ : ∃ e : ByteArray, e = (⟨#[]⟩ : ByteArray) := ⟨_, rfl⟩
  have z : e.size = 0 := by rw [he]; rfl
  have this := sEnc_l0 T hT hT5 m (by omega) hall m.size k 0 e (by omega) (by omega) hk (by omega)
  have hp : prevL m 0 = false := by unfold prevL; simp
  rw [List.drop_zero, Int.natCast_zero, hp, he] at this
  unfold spec_l2Encode.f encB
  exact this
/-! the program's words -/
def Jw (T : List ByteArray) (w : List UInt8) : ByteArray := joinB 32 (w.map (mk1 T))
theorem joinB_nil (c : UInt8) : joinB c [] = (⟨#[]⟩ : ByteArray) := by
  unfold joinB
  rw [List.map_nil, Lib.join_nil]; rfl
theorem joinB_grow (c : UInt8) (done : List ByteArray) (x y : ByteArray) : joinB c (done ++ [x ++ y]) = joinB c (done ++ [x]) ++ y := by
  cases done with
  | nil => rw [List.nil_append, List.nil_append, joinB_one, joinB_one]
  | cons a l => rw [joinB_snoc c _ _ (by simp), joinB_snoc c _ _ (by simp), ← ByteArray.append_assoc]
theorem notSp {n : Nat} {c : UInt8} (h : letOk n c = true) (hn : n ≤ 10) : Lib.isSp c = false ∧ c ≠ 32 := by
  have hc := letOk_le h
  have key : ∀ d : UInt8, d.toNat < 97 → c ≠ d := fun d hd e => by rw [e] at hc; omega
  have h32 := key 32 (by decide)
  have h9 := key 9 (by decide)
  have h10 := key 10 (by decide)
  have h11 := key 11 (by decide)
  have h12 := key 12 (by decide)
  have h13 := key 13 (by decide)
  refine ⟨?_, h32⟩
  unfold Lib.isSp
  simp [h9, h10, h11, h12, h13, h32]
theorem words_out (T : List ByteArray) (n : Nat) (hn : n ≤ 10) (l : List UInt8) :
    (∀ (cur : List UInt8) (done : List ByteArray), cur ≠ [] → okR n true l = true → joinB 47 (done ++ (Lib.fieldsGo cur l).map (Jw T)) = outS T true l (joinB 47 (done ++ [Jw T cur]))) ∧
    (∀ (done : List ByteArray), done ≠ [] → okR n false l = true → joinB 47 (done ++ (Lib.fieldsGo [] l).map (Jw T)) = outS T false l (joinB 47 done ++ (⟨#[47]⟩ : ByteArray))) := by
  induction l with
  | nil =>
    refine ⟨fun cur done hc _ => ?_, fun done hd h => by cases h⟩
    cases cur with
    | nil => exact absurd rfl hc
    | cons a t => rfl
  | cons c l ih =>
    obtain ⟨iA, iB⟩ := ih
    refine ⟨fun cur done hc h => ?_, fun done hd h => ?_⟩
    · simp only [okR] at h
      by_cases h32 : c = 32
      · subst h32
        rw [if_pos rfl, Bool.true_and] at h
        have e : Lib.fieldsGo cur (32 :: l) = cur :: Lib.fieldsGo [] l := Lib.fieldsGo_end cur 32 l (by decide) hc
        have := iB (done ++ [Jw T cur]) (by simp) h
        rw [e, List.map_cons, ← List.singleton_append, ← List.append_assoc, this]
        simp only [outS, if_true]
      · rw [if_neg h32, Bool.and_eq_true] at h
        have hs := (notSp h.1 hn).1
        have e : Lib.fieldsGo cur (c :: l) = Lib.fieldsGo (cur ++ [c]) l := Lib.fieldsGo_more cur c l hs
        have := iA (cur ++ [c]) done (by simp) h.2
        have ej : Jw T (cur ++ [c]) = Jw T cur ++ ((⟨#[32]⟩ : ByteArray) ++ mk1 T c) := by
          unfold Jw
          rw [List.map_append, List.map_cons, List.map_nil, joinB_snoc 32 _ _ (by simpa using hc), ByteArray.append_assoc]
        rw [e, this, ej, joinB_grow, ← ByteArray.append_assoc]
        simp only [outS, h32, if_false, if_true]
    · simp only [okR] at h
      by_cases h32 : c = 32
      · rw [if_pos h32] at h; cases h
      · rw [if_neg h32, Bool.and_eq_true] at h
        have hs := (notSp h.1 hn).1
        have e : Lib.fieldsGo [] (c :: l) = Lib.fieldsGo [c] l := Lib.fieldsGo_more [] c l hs
        have := iA [c] done (by simp) h.2
        have ej : Jw T [c] = mk1 T c := joinB_one 32 _
        rw [e, this, ej, joinB_snoc 47 done _ hd]
        simp only [outS, h32, if_false]
        rfl
theorem words_enc (T : List ByteArray) (n : Nat) (hn : n ≤ 10) (l : List UInt8) (h : l = [] ∨ okR n false l = true) : joinB 47 ((Lib.fields l).map (Jw T)) = outS T false l (⟨#[]⟩ : ByteArray) := by
  rcases h with rfl | h
  · exact joinB_nil 47
  · cases l with
    | nil => cases h
    | cons c l =>
      simp only [okR] at h
      by_cases h32 : c = 32
      · rw [if_pos h32] at h; cases h
      · rw [if_neg h32, Bool.and_eq_true] at h
        have hs := (notSp h.1 hn).1
        have e : Lib.fields (c :: l) = Lib.fieldsGo [c] l := Lib.fieldsGo_more [] c l hs
        have := (words_out T n hn l).1 [c] [] (by simp) h.2
        have ej : Jw T [c] = mk1 T c := joinB_one 32 _
        rw [List.nil_append, List.nil_append, joinB_one, ej] at this
        rw [e, this]
        simp only [outS, h32, if_false, Bool.false_eq_true]
        congr 1
/-- every word is of letters -/
theorem words_ok (n : Nat) (l : List UInt8) : ∀ (p : Bool) (cur : List UInt8), okR n p l = true → cur.all (letOk n) = true → ∀ w ∈ Lib.fieldsGo cur l, w.all (letOk n) = true ∧ w.length ≤ cur.length + l.length := by
  induction l with
  | nil =>
    intro p cur _ hc w hw
    simp only [Lib.fieldsGo] at hw
    split at hw
    · cases hw
    · rw [List.mem_singleton.1 hw]; exact ⟨hc, by simp⟩
  | cons c l ih =>
    intro p cur h hc w hw
    simp only [okR] at h
    by_cases h32 : c = 32
    · subst h32
      rw [if_pos rfl, Bool.and_eq_true] at h
      have hsp : Lib.isSp 32 = true := by decide
      simp only [Lib.fieldsGo, hsp, if_true] at hw
      split at hw
      · have := ih false [] h.2 rfl w hw
        exact ⟨this.1, by simp at this ⊢; omega⟩
      · rcases List.mem_cons.1 hw with rfl | hw
        · exact ⟨hc, by simp⟩
        · have := ih false [] h.2 rfl w hw
          exact ⟨this.1, by simp at this ⊢; omega⟩
    · rw [if_neg h32, Bool.and_eq_true] at h
      by_cases hsp : Lib.isSp c = true
      · simp only [Lib.fieldsGo, hsp, if_true] at hw
        split at hw
        · rename_i he
          have := ih true [] h.2 rfl w hw
          exact ⟨this.1, by simp at this ⊢; omega⟩
        · rcases List.mem_cons.1 hw with rfl | hw
          · exact ⟨hc, by simp⟩
          · have := ih true [] h.2 rfl w hw
            exact ⟨this.1, by simp at this ⊢; omega⟩
      · simp only [Lib.fieldsGo, (Bool.not_eq_true _).mp hsp, Bool.false_eq_true, if_false] at hw
        have := ih true (cur ++ [c]) h.2 (by rw [List.all_append, hc]; simp [h.1]) w hw
        exact ⟨this.1, by simp at this ⊢; omega⟩
theorem join_any (c : UInt8) (l : List ByteArray) (hl : l.length ≤ 1048576) (hz : sumZ l + ((l.length : Int) - 1) ≤ 100000000000) : strings_Join.f l ⟨#[c]⟩ = some (joinB c l) := by
  by_cases h : l = []
  · subst h
    unfold strings_Join.f
    rw [if_pos (by simp)]
    show (if (Lib.join [] [c]).length ≤ 140737488355328 then some (joinB c []) else none) = _
    rw [if_pos (by rw [Lib.join_nil]; simp)]
  · exact join_full c l hl h hz
theorem sumZ_small (l : List ByteArray) (b : Int) (h0 : 0 ≤ b) (h : ∀ s ∈ l, (s.size : Int) ≤ b) : sumZ l ≤ b * (l.length : Int) := by
  induction l with
  | nil => rw [sumZ_nil]; simp
  | cons a l ih =>
    have h1 := ih fun s hs => h s (List.mem_cons_of_mem _ hs)
    have h2 := h a List.mem_cons_self
    have e : sumZ (a :: l) = (a.size : Int) + sumZ l := by
      have := sumZ_append [a] l
      have e1 := sumZ_snoc [] a
      rw [List.nil_append, sumZ_nil] at e1
      rw [List.singleton_append] at this
      omega
    rw [e, List.length_cons, Int.natCast_add, Int.mul_add]
    simp only [Int.natCast_one, Int.mul_one]
    omega
theorem iEnc_l1 (T : List ByteArray) (hT : T.length ≤ 10) (hT5 : ∀ c ∈ T, c.size ≤ 5) (W X : List ByteArray) (hW : W.length ≤ 100) (p : Nat) (hX : X.length ≤ 100) (hp : p ≤ 100) (w : ByteArray) (hw : w.size ≤ 100) (hok : w.data.toList.all (letOk T.length) = true) (q d : Nat) : ∀ (k j : Nat), k = q + d + 1 → j ≤ w.size → w.size - j = d →
    impl_encode.l1 k W w ((w.data.toList.take j).map (mk1 T)) X (X.length : Int) (p : Int) (w.size : Int) (j : Int) T = impl_encode.l0 q (W ++ [Jw T w.data.toList]) X (X.length : Int) ((p + 1 : Nat) : Int) T := by
  have hsz := size_data w
  have ep : wrap64 ((p : Int) + 1) = ((p + 1 : Nat) : Int) := by rw [wr (by omega) (by omega)]; omega
  induction d with
  | zero =>
    intro k j hk hj hd
    subst hk
    have hjn : ¬ (j : Int) < (w.size : Int) := by clear ep; omega
    have hlen : ((w.data.toList.take j).map (mk1 T)).length ≤ 100 := by rw [List.length_map, List.length_take]; clear ep; omega
    have hz := sumZ_small ((w.data.toList.take j).map (mk1 T)) 5 (by decide) (fun s hs => by
      obtain ⟨c, _, rfl⟩ := List.mem_map.1 hs
      have := mk1_size T hT5 c
      clear ep; omega)
    have hJ := join_any 32 ((w.data.toList.take j).map (mk1 T)) (by clear ep; omega) (by clear ep; omega)
    have hWl : W.length < 8796093022208 := by clear ep; omega
    simp only [impl_encode.l1, Nat.add_zero, hjn, if_false, hJ, Option.bind_some, hWl, if_true, ep]
    rw [List.take_of_length_le (by clear ep; omega)]; rfl
  | succ d ih =>
    intro k j hk hj hd
    obtain ⟨k, rfl⟩ : ∃ m, k = m + 1 := ⟨q + d + 1, by clear ep ih; omega⟩
    have hlt : j < w.data.toList.length := by clear ep ih; omega
    obtain ⟨c, hcl, hc0, htake⟩ : ∃ c : UInt8, bt w (j : Int) = ((c.toNat : Nat) : Int) ∧ letOk T.length c = true ∧ w.data.toList.take (j + 1) = w.data.toList.take j ++ [c] := ⟨w.data.toList[j], bt_nat w j (by clear ep ih; omega), List.all_eq_true.1 hok _ (List.getElem_mem hlt), List.take_succ_eq_append_getElem hlt⟩
    have hc := letOk_le hc0
    have n := ih k (j + 1) (Nat.succ.inj hk) (by clear ep ih; omega) (by clear ep ih; omega)
    have hlen : ((w.data.toList.take j).map (mk1 T)).length < 8796093022208 := by rw [List.length_map, List.length_take]; clear ep ih n; omega
    have c1 : (j : Int) < (w.size : Int) := by clear ep ih n; omega
    have c2 : (0 : Int) ≤ (j : Int) := by clear ep ih n; omega
    have e5 : (((c.toNat : Nat) : Int) - 97) % 256 = ((c.toNat : Nat) : Int) - 97 := by clear ep ih n; omega
    have g1 : (0 : Int) ≤ ((c.toNat : Nat) : Int) - 97 := by clear ep ih n e5; omega
    have g2 : ((c.toNat : Nat) : Int) - 97 < (T.length : Int) := by clear ep ih n e5; omega
    have e1 : wrap64 ((j : Int) + 1) = ((j + 1 : Nat) : Int) := by clear ep ih n e5; rw [wr (by omega) (by omega)]; omega
    rw [htake, List.map_append, List.map_cons, List.map_nil] at n
    simp only [impl_encode.l1, c1, c2, if_true, hcl, e5, g1, g2, hlen, rd_mk1 T c hc.1, e1]
    exact n
theorem iEnc_l0 (T : List ByteArray) (hT : T.length ≤ 10) (hT5 : ∀ c ∈ T, c.size ≤ 5) (F : List (List UInt8)) (hF : F.length ≤ 50) (hw : ∀ w ∈ F, w.all (letOk T.length) = true ∧ w.length ≤ 50) (d : Nat) : ∀ (k p : Nat), p ≤ F.length → F.length - p = d → 100 * d < k →
    impl_encode.l0 k ((F.take p).map (Jw T)) (F.map fun l => (⟨l.toArray⟩ : ByteArray)) ((F.map fun l => (⟨l.toArray⟩ : ByteArray)).length : Int) (p : Int) T = some (joinB 47 (F.map (Jw T))) := by
  have hXl : (F.map fun l => (⟨l.toArray⟩ : ByteArray)).length = F.length := List.length_map _
  induction d with
  | zero =>
    intro k p hp hd hk
    obtain ⟨k, rfl⟩ := pred_of_lt hk
    have hpn : ¬ (p : Int) < (((F.map fun l => (⟨l.toArray⟩ : ByteArray)).length : Nat) : Int) := by rw [hXl]; omega
    rw [List.take_of_length_le (by omega)]
    have hz := sumZ_small (F.map (Jw T)) 1000 (by decide) (fun s hs => by
      obtain ⟨w, hwF, rfl⟩ := List.mem_map.1 hs
      obtain ⟨_, h50⟩ := hw w hwF
      by_cases h0 : w = []
      · subst h0; show ((joinB 32 []).size : Int) ≤ 1000; rw [joinB_nil]; decide
      · have h1 := joinB_size 32 (w.map (mk1 T)) (by simpa using h0)
        have h2 := sumZ_small (w.map (mk1 T)) 5 (by decide) (fun s hs => by
          obtain ⟨c, _, rfl⟩ := List.mem_map.1 hs
          have := mk1_size T hT5 c
          omega)
        rw [List.length_map] at h1 h2
        show ((joinB 32 (w.map (mk1 T))).size : Int) ≤ 1000
        omega)
    rw [List.length_map] at hz
    have hJ := join_any 47 (F.map (Jw T)) (by rw [List.length_map]; omega) (by rw [List.length_map]; omega)
    simp only [impl_encode.l0, hpn, if_false, hJ, Option.bind_some]
  | succ d ih =>
    intro k p hp hd hk
    obtain ⟨k, rfl⟩ := pred_of_lt hk
    have hlt : p < F.length := by omega
    obtain ⟨w, hwF, hget, htake⟩ : ∃ w, w ∈ F ∧ rdOf ByteArray.empty (F.map fun l => (⟨l.toArray⟩ : ByteArray)) (p : Int) = (⟨w.toArray⟩ : ByteArray) ∧ F.take (p + 1) = F.take p ++ [w] := ⟨F[p], List.getElem_mem hlt, by rw [rdS_get _ p (by rw [hXl]; exact hlt), List.getElem_map], List.take_succ_eq_append_getElem hlt⟩
    obtain ⟨w1, w2⟩ := hw w hwF
    have hws : (⟨w.toArray⟩ : ByteArray).size = w.length := txt_size w
    have n := ih (k - w.length - 1) (p + 1) (by omega) (by omega) (by omega)
    have s := iEnc_l1 T hT hT5 ((F.take p).map (Jw T)) (F.map fun l => (⟨l.toArray⟩ : ByteArray)) (by rw [List.length_map, List.length_take]; omega) p (by rw [hXl]; omega) (by omega) (⟨w.toArray⟩ : ByteArray) (by omega) w1 (k - w.length - 1) w.length k 0 (by omega) (by omega) (by omega)
    rw [List.take_zero, List.map_nil, Int.natCast_zero] at s
    rw [htake, List.map_append, List.map_cons, List.map_nil] at n
    have c1 : (p : Int) < (((F.map fun l => (⟨l.toArray⟩ : ByteArray)).length : Nat) : Int) := by rw [hXl]; omega
    have c2 : (0 : Int) ≤ (p : Int) := by omega
    simp only [impl_encode.l0, c1, c2, if_true, hget]
    rw [s]
    exact n
theorem isMsg_okR (T : List ByteArray) (m : ByteArray) (h : isMsg T m = true) : m.size ≤ 12 ∧ mAll m T.length = true ∧ (m.data.toList = [] ∨ okR T.length false m.data.toList = true) := by
  simp only [isMsg, Bool.and_eq_true, decide_eq_true_eq] at h
  refine ⟨h.1, h.2, ?_⟩
  by_cases h0 : m.size = 0
  · left; exact List.length_eq_zero_iff.1 (by rw [size_data]; exact h0)
  · right
    have := okR_at m T.length h.2 (by omega) m.size 0 (by omega) (by omega)
    rw [List.drop_zero] at this
    exact this
theorem okR_byte (n : Nat) (hn : n ≤ 10) (l : List UInt8) : ∀ p, okR n p l = true → ∀ c ∈ l, c.toNat < 128 := by
  induction l with
  | nil => intro p _ c hc; cases hc
  | cons a l ih =>
    intro p h c hc
    simp only [okR] at h
    by_cases h32 : a = 32
    · rw [if_pos h32, Bool.and_eq_true] at h
      rcases List.mem_cons.1 hc with rfl | hc
      · rw [h32]; decide
      · exact ih false h.2 c hc
    · rw [if_neg h32, Bool.and_eq_true] at h
      rcases List.mem_cons.1 hc with rfl | hc
      · have := letOk_le h.1; omega
      · exact ih true h.2 c hc
theorem encode_eq (T : List ByteArray) (hT : T.length ≤ 10) (hT5 : ∀ c ∈ T, c.size ≤ 5) (m : ByteArray) (h : isMsg T m = true) (k : Nat) (hk : 5000 < k) : impl_encode.f k T m = some (encB T m) := by
  obtain ⟨h12, _, hr⟩ := isMsg_okR T m h
  have hsz := size_data m
  have hF : (Lib.fields m.data.toList).length ≤ 13 := by
    have := strings_Fields.cnt m.data.toList true
    rw [← Lib.fields_length] at this
    omega
  have hasc : m.data.toList.all (fun b => decide (b.toNat < 128)) = true := by
    rw [List.all_eq_true]
    intro c hc
    rcases hr with h0 | h0
    · rw [h0] at hc; cases hc
    · have := okR_byte T.length hT _ _ h0 c hc
      simpa using this
  have hwd : ∀ w ∈ Lib.fields m.data.toList, w.all (letOk T.length) = true ∧ w.length ≤ 50 := fun w hw => by
    rcases hr with h0 | h0
    · rw [h0] at hw; cases hw
    · have := words_ok T.length m.data.toList false [] h0 rfl w hw
      rw [List.length_nil] at this
      exact ⟨this.1, by omega⟩
  unfold impl_encode.f strings_Fields.f
  rw [if_pos (by omega), if_pos hasc]
  simp only [Option.bind_some]
  have := iEnc_l0 T hT hT5 (Lib.fields m.data.toList) (by omega) hwd (Lib.fields m.data.toList).length k 0 (by omega) (by omega) (by omega)
  rw [List.take_zero, List.map_nil, Int.natCast_zero] at this
  rw [this, words_enc T T.length hT _ hr]; rfl
/-! a text's pieces between the bytes that part them -/
theorem ext_list (s : ByteArray) (i : Nat) : (s.extract i s.size).data.toList = s.data.toList.drop i := by
  rw [ByteArray.data_extract, Array.toList_extract, List.extract_eq_take_drop, List.take_of_length_le]
  have := size_data s
  rw [List.length_drop]; omega
theorem indexByte_is (l : List UInt8) (c : UInt8) (m : Nat) (h1 : l[m]? = some c) (h2 : ∀ k, k < m → l[k]? ≠ some c) : Lib.indexByte l c = (m : Int) := by
  have hge := Lib.indexByte_ge l c
  by_cases hn : Lib.indexByte l c = -1
  · exact absurd h1 (Lib.indexByte_none hn m)
  · obtain ⟨o, ho⟩ : ∃ o : Nat, Lib.indexByte l c = (o : Int) := ⟨(Lib.indexByte l c).toNat, by omega⟩
    obtain ⟨a1, a2⟩ := Lib.indexByte_some ho
    have : o = m := by
      rcases Nat.lt_trichotomy o m with h | h | h
      · exact absurd a1 (h2 o h)
      · exact h
      · exact absurd h1 (a2 m h)
    rw [ho, this]
theorem indexByte_not (l : List UInt8) (c : UInt8) (h2 : ∀ k : Nat, l[k]? ≠ some c) : Lib.indexByte l c = -1 := by
  have hge := Lib.indexByte_ge l c
  by_cases hn : Lib.indexByte l c = -1
  · exact hn
  · obtain ⟨o, ho⟩ : ∃ o : Nat, Lib.indexByte l c = (o : Int) := ⟨(Lib.indexByte l c).toNat, by omega⟩
    exact absurd (Lib.indexByte_some ho).1 (h2 o)
/-- the pieces -/
def pieces (s : ByteArray) (c : UInt8) : List ByteArray := Lib.splitB ⟨#[c]⟩ 0 (Lib.countB s ⟨#[c]⟩) s
theorem pieces_end (s : ByteArray) (c : UInt8) (i : Nat) (h : ∀ k, i ≤ k → s.data.toList[k]? ≠ some c) : pieces (s.extract i s.size) c = [s.extract i s.size] := by
  unfold pieces
  refine Lib.splitB_miss _ _ _ _ ?_
  rw [strings_Split.idx]
  refine indexByte_not _ _ fun k => ?_
  rw [ext_list, List.getElem?_drop]
  exact h _ (by omega)
theorem pieces_hit (s : ByteArray) (c : UInt8) (i j : Nat) (hij : i ≤ j) (hj : j < s.size) (h1 : s.data.toList[j]? = some c) (h2 : ∀ k, i ≤ k → k < j → s.data.toList[k]? ≠ some c) :
    pieces (s.extract i s.size) c = s.extract i j :: pieces (s.extract (j + 1) s.size) c := by
  have hi : Lib.indexB (s.extract i s.size) ⟨#[c]⟩ = ((j - i : Nat) : Int) := by
    rw [strings_Split.idx]
    refine indexByte_is _ _ _ ?_ fun k hk => ?_
    · rw [ext_list, List.getElem?_drop, show i + (j - i) = j by omega]; exact h1
    · rw [ext_list, List.getElem?_drop]; exact h2 _ (by omega) (by omega)
  have hz : (s.extract i s.size).size = s.size - i := by rw [ByteArray.size_extract, Nat.min_self]
  have e1 : (s.extract i s.size).extract (j - i + (⟨#[c]⟩ : ByteArray).size) (s.extract i s.size).size = s.extract (j + 1) s.size := by
    rw [ByteArray.extract_extract, hz]
    show s.extract (i + (j - i + 1)) (min (i + (s.size - i)) s.size) = _
    rw [show i + (j - i + 1) = j + 1 by omega, show min (i + (s.size - i)) s.size = s.size by omega]
  have e2 : (s.extract i s.size).extract 0 (j - i + 0) = s.extract i j := by
    rw [ByteArray.extract_extract, show i + 0 = i by omega, show min (i + (j - i + 0)) s.size = j by omega]
  unfold pieces
  rw [Lib.countB_hit (s.extract i s.size) (⟨#[c]⟩ : ByteArray) (j - i) (Nat.le_refl 1) hi, e1, Nat.add_comm, Lib.splitB_hit _ _ _ _ _ hi, e1, e2]
theorem getL (s : ByteArray) (j : Nat) (h : j < s.size) : s.data.toList[j]? = some (s.data.toList[j]'(by rw [size_data]; exact h)) := List.getElem?_eq_getElem _
theorem l1Split_l0 (s : ByteArray) (hs : s.size ≤ 1048576) (c : UInt8) (d : Nat) : ∀ (k i j : Nat) (x : List ByteArray), i ≤ j → j ≤ s.size → s.size - j = d → d < k → x.length ≤ j → (∀ m, i ≤ m → m < j → s.data.toList[m]? ≠ some c) →
    spec_l1Split.l0 k s (c.toNat : Int) x (i : Int) (j : Int) = some (x ++ pieces (s.extract i s.size) c) := by
  have hsz := size_data s
  induction d with
  | zero =>
    intro k i j x hij hj hd hk hx hn
    obtain ⟨k, rfl⟩ := pred_of_lt hk
    simp only [spec_l1Split.l0]
    rw [if_neg (by omega), if_pos (by omega), if_pos (by omega), if_pos (by omega), pieces_end s c i (fun m hm => by
      by_cases h : m < j
      · exact hn m hm h
      · rw [List.getElem?_eq_none (by omega)]; exact fun h => by cases h), Int.toNat_natCast]
  | succ d ih =>
    intro k i j x hij hj hd hk hx hn
    obtain ⟨k, rfl⟩ := pred_of_lt hk
    have c1 : (j : Int) < (s.size : Int) := by omega
    have c2 : (0 : Int) ≤ (j : Int) := by omega
    have e1 : wrap64 ((j : Int) + 1) = ((j + 1 : Nat) : Int) := by rw [wr (by omega) (by omega)]; omega
    simp only [spec_l1Split.l0, c1, c2, if_true, e1, Int.toNat_natCast]
    by_cases hc : bt s (j : Int) = (c.toNat : Int)
    · rw [if_pos hc, if_pos (by omega), if_pos (by omega), if_pos (by omega), if_pos (by omega)]
      rw [bt_is s j (by omega) c _ rfl] at hc
      rw [ih k (j + 1) (j + 1) _ (by omega) (by omega) (by omega) (by omega) (by simp; omega) (fun m h1 h2 => by omega),
        pieces_hit s c i j hij (by omega) (by rw [getL s j (by omega), hc]) hn, List.append_assoc]
      rfl
    · rw [if_neg hc]
      rw [bt_is s j (by omega) c _ rfl] at hc
      exact ih k i (j + 1) x (by omega) (by omega) (by omega) (by omega) (by omega) (fun m h1 h2 => by
        by_cases h : m = j
        · subst h; rw [getL s m (by omega)]; exact fun h => hc (Option.some.inj h)
        · exact hn m h1 (by omega))
theorem whole (s : ByteArray) : s.extract 0 s.size = s := ByteArray.extract_zero_size
theorem l1Split_eq (s : ByteArray) (hs : s.size ≤ 1048576) (c : UInt8) (k : Nat) (hk : s.size < k) : spec_l1Split.f k s (c.toNat : Int) = some (pieces s c) := by
  unfold spec_l1Split.f
  have := l1Split_l0 s hs c s.size k 0 0 [] (by omega) (by omega) (by omega) hk (by simp) (fun m h1 h2 => by omega)
  rw [whole] at this
  simpa using this
theorem iSplit_eq (s : ByteArray) (hs : s.size ≤ 1048576) (c : UInt8) : strings_Split.f s ⟨#[c]⟩ = some (pieces s c) := by
  show (if s.size < 4294967281 then some (Lib.splitB ⟨#[c]⟩ 0 (Lib.countB s ⟨#[c]⟩) s) else none) = _
  rw [if_pos (by omega)]; rfl
theorem pieces_len (s : ByteArray) (c : UInt8) : (pieces s c).length ≤ s.size + 1 := by
  unfold pieces
  have := Lib.countB_le (⟨#[c]⟩ : ByteArray) (Nat.le_refl 1) s.size s (Nat.le_refl _)
  have := Lib.splitB_all (⟨#[c]⟩ : ByteArray) (Nat.le_refl 1) 0 _ s rfl
  omega
theorem one_byte (a : ByteArray) (h : (a.size : Int) = 1) : ∃ c : UInt8, a = ⟨#[c]⟩ := by
  obtain ⟨⟨l⟩⟩ := a
  match l, h with
  | [c], _ => exact ⟨c, rfl⟩
/-! a signal, as both sides ask for it -/
theorem pieces_step (s : ByteArray) (c : UInt8) : pieces s c = [s] ∨ ∃ o : Nat, o < s.size ∧ pieces s c = s.extract 0 o :: pieces (s.extract (o + 1) s.size) c := by
  have hsz := size_data s
  have hge := Lib.indexByte_ge s.data.toList c
  by_cases hn : Lib.indexByte s.data.toList c = -1
  · refine Or.inl (Lib.splitB_miss _ _ _ _ ?_)
    rw [strings_Split.idx]; exact hn
  · obtain ⟨o, ho⟩ : ∃ o : Nat, Lib.indexByte s.data.toList c = (o : Int) := ⟨(Lib.indexByte s.data.toList c).toNat, by omega⟩
    have h1 := (Lib.indexByte_some ho).1
    have hlt : o < s.size := by rw [← hsz]; exact (List.getElem?_eq_some_iff.1 h1).1
    have hi : Lib.indexB s ⟨#[c]⟩ = (o : Int) := by rw [strings_Split.idx]; exact ho
    refine Or.inr ⟨o, hlt, ?_⟩
    unfold pieces
    rw [Lib.countB_hit s (⟨#[c]⟩ : ByteArray) o (Nat.le_refl 1) hi, Nat.add_comm, Lib.splitB_hit _ _ _ _ _ hi]
    rfl
theorem pieces_sum (c : UInt8) : ∀ (n : Nat) (s : ByteArray), s.size ≤ n → ((pieces s c).map fun p => p.size + 1).sum = s.size + 1 := by
  intro n
  induction n with
  | zero =>
    intro s hs
    rcases pieces_step s c with h | ⟨o, ho, h⟩
    · rw [h]; simp
    · omega
  | succ n ih =>
    intro s hs
    rcases pieces_step s c with h | ⟨o, ho, h⟩
    · rw [h]; simp
    · rw [h, List.map_cons, List.sum_cons, ih (s.extract (o + 1) s.size) (by rw [ByteArray.size_extract]; omega), ByteArray.size_extract, ByteArray.size_extract]
      omega
theorem mem_le_sum (f : ByteArray → Nat) : ∀ (l : List ByteArray) (p : ByteArray), p ∈ l → f p ≤ (l.map f).sum
  | [], _, h => by cases h
  | a :: l, p, h => by
    rw [List.map_cons, List.sum_cons]
    rcases List.mem_cons.1 h with h | h
    · rw [h]; omega
    · have := mem_le_sum f l p h; omega
theorem piece_size (s : ByteArray) (c : UInt8) (p : ByteArray) (h : p ∈ pieces s c) : p.size ≤ s.size := by
  have h1 := mem_le_sum (fun p => p.size + 1) _ p h
  rw [pieces_sum c s.size s (Nat.le_refl _)] at h1
  omega
def wordsL (s : ByteArray) : List (List ByteArray) := (pieces s 47).map fun w => pieces w 32
theorem l2Words_l0 (P : List ByteArray) (hP : P.length ≤ 1048577) (hs : ∀ p ∈ P, p.size ≤ 1048576) (d : Nat) : ∀ (k i : Nat), i ≤ P.length → P.length - i = d → d + 1048577 < k →
    spec_l2Words.l0 k ((P.take i).map fun w => pieces w 32) P (i : Int) = some (P.map fun w => pieces w 32) := by
  induction d with
  | zero =>
    intro k i hi hd hk
    obtain ⟨k, rfl⟩ := pred_of_lt hk
    simp only [spec_l2Words.l0]
    rw [if_neg (by omega), List.take_of_length_le (by omega)]
  | succ d ih =>
    intro k i hi hd hk
    obtain ⟨k, rfl⟩ := pred_of_lt hk
    have hlt : i < P.length := by omega
    obtain ⟨p, hp, hget, hsn⟩ : ∃ p : ByteArray, p.size ≤ 1048576 ∧ rdOf ByteArray.empty P (i : Int) = p ∧ (P.take (i + 1)).map (fun w => pieces w 32) = (P.take i).map (fun w => pieces w 32) ++ [pieces p 32] :=
      ⟨P[i], hs _ (List.getElem_mem hlt), rdS_get P i hlt, by rw [List.take_succ_eq_append_getElem hlt, List.map_append]; rfl⟩
    have n := ih k (i + 1) hlt (by rw [Nat.sub_add_eq, hd]; rfl) (by omega)
    have hsp := l1Split_eq p hp 32 k (by omega)
    have h32 : (((32 : UInt8).toNat : Nat) : Int) = 32 := rfl
    rw [h32] at hsp
    have hln : ((P.take i).map fun w => pieces w 32).length < 5864062014805 := by rw [List.length_map, List.length_take]; omega
    have c1 : (i : Int) < (P.length : Int) := by omega
    have c2 : (0 : Int) ≤ (i : Int) := by omega
    have e1 : wrap64 ((i : Int) + 1) = ((i + 1 : Nat) : Int) := by rw [wr (by omega) (by omega)]; omega
    simp only [spec_l2Words.l0, c1, c2, if_true, hget, hsp, Option.bind_some, hln, e1]
    rw [← hsn]; exact n
theorem l2Words_eq (s : ByteArray) (hs : s.size ≤ 1048576) (k : Nat) (hk : 2097200 ≤ k) : spec_l2Words.f k s = some (wordsL s) := by
  unfold spec_l2Words.f
  have h47 : (((47 : UInt8).toNat : Nat) : Int) = 47 := rfl
  have hsp := l1Split_eq s hs 47 k (by omega)
  rw [h47] at hsp
  rw [hsp]
  simp only [Option.bind_some]
  have hl := pieces_len s 47
  exact l2Words_l0 (pieces s 47) (by omega) (fun p hp => by have := piece_size s 47 p hp; omega) (pieces s 47).length k 0 (by omega) (by omega) (by omega)
theorem lettersOf_l0 (P : List ByteArray) (hP : P.length ≤ 1048577) (hs : ∀ p ∈ P, p.size ≤ 1048576) (d : Nat) : ∀ (k i : Nat), i ≤ P.length → P.length - i = d → d < k →
    impl_lettersOf.l0 k ((P.take i).map fun w => pieces w 32) P (P.length : Int) (i : Int) = some (P.map fun w => pieces w 32) := by
  induction d with
  | zero =>
    intro k i hi hd hk
    obtain ⟨k, rfl⟩ := pred_of_lt hk
    simp only [impl_lettersOf.l0]
    rw [if_neg (by omega), List.take_of_length_le (by omega)]
  | succ d ih =>
    intro k i hi hd hk
    obtain ⟨k, rfl⟩ := pred_of_lt hk
    have hlt : i < P.length := by omega
    obtain ⟨p, hp, hget, hsn⟩ : ∃ p : ByteArray, p.size ≤ 1048576 ∧ rdOf ByteArray.empty P (i : Int) = p ∧ (P.take (i + 1)).map (fun w => pieces w 32) = (P.take i).map (fun w => pieces w 32) ++ [pieces p 32] :=
      ⟨P[i], hs _ (List.getElem_mem hlt), rdS_get P i hlt, by rw [List.take_succ_eq_append_getElem hlt, List.map_append]; rfl⟩
    have n := ih k (i + 1) hlt (by rw [Nat.sub_add_eq, hd]; rfl) (by omega)
    have hsp := iSplit_eq p hp 32
    have hln : ((P.take i).map fun w => pieces w 32).length < 5864062014805 := by rw [List.length_map, List.length_take]; omega
    have c1 : (i : Int) < (P.length : Int) := by omega
    have c2 : (0 : Int) ≤ (i : Int) := by omega
    have e1 : wrap64 ((i : Int) + 1) = ((i + 1 : Nat) : Int) := by rw [wr (by omega) (by omega)]; omega
    simp only [impl_lettersOf.l0, c1, c2, if_true, hget, hsp, Option.bind_some, hln, e1]
    rw [← hsn]; exact n
theorem isNil (s : ByteArray) : (s.toList = ([] : List UInt8)) ↔ s.size = 0 := by
  rw [ByteArray.toList_eq, ← size_data s]
  exact List.length_eq_zero_iff.symm
def wordsI (s : ByteArray) : List (List ByteArray) := if s.size = 0 then [] else wordsL s
theorem lettersOf_eq (s : ByteArray) (hs : s.size ≤ 1048576) (k : Nat) (hk : 1048580 ≤ k) : impl_lettersOf.f k s = some (wordsI s) := by
  unfold impl_lettersOf.f wordsI
  simp only [Option.bind_some, isNil]
  by_cases h : s.size = 0
  · rw [if_pos h, if_pos h]
  · rw [if_neg h, if_neg h, iSplit_eq s hs 47]
    simp only [Option.bind_some]
    have hl := pieces_len s 47
    exact lettersOf_l0 (pieces s 47) (by omega) (fun p hp => by have := piece_size s 47 p hp; omega) (pieces s 47).length k 0 (by omega) (by omega) (by omega)
/-- every letter is marks; and how many letters and breaks there are -/
def okL (w : List ByteArray) : Bool := w.all fun s => isMk s 1 5
def okW (W : List (List ByteArray)) : Bool := W.all okL
def cntW (W : List (List ByteArray)) : Nat := (W.map fun w => w.length).sum
theorem cntW_cons (w : List ByteArray) (W : List (List ByteArray)) : cntW (w :: W) = w.length + cntW W := by simp [cntW]
theorem rdL_get (W : List (List ByteArray)) (i : Nat) (h : i < W.length) : rd_L1 W (i : Int) = W[i] := by simp [rd_L1, h]
def fuW (W : List (List ByteArray)) : Nat := (W.map fun w => w.length + 2).sum
theorem fuW_eq (W : List (List ByteArray)) : fuW W = cntW W + 2 * W.length := by
  induction W with
  | nil => rfl
  | cons w W ih => simp only [fuW, cntW, List.map_cons, List.sum_cons, List.length_cons] at ih ⊢; omega
theorem wordsL_cnt (s : ByteArray) : cntW (wordsL s) ≤ s.size + 1 := by
  have h := pieces_sum 47 s.size s (Nat.le_refl _)
  unfold wordsL cntW
  rw [List.map_map]
  have : ∀ P : List ByteArray, (P.map ((fun w => w.length) ∘ fun w => pieces w 32)).sum ≤ (P.map fun p => p.size + 1).sum := by
    intro P
    induction P with
    | nil => exact Nat.le_refl _
    | cons p P ih =>
      have := pieces_len p 32
      simp only [List.map_cons, List.sum_cons, Function.comp] at ih ⊢; omega
  have := this (pieces s 47)
  omega
/-! how long marks take, told alike by both sides -/
def dashes (s : ByteArray) (i : Nat) : Nat := (s.data.toList.take i).count 45
theorem dashes_succ (s : ByteArray) (i : Nat) (h : i < s.size) : dashes s (i + 1) = dashes s i + (if bt s (i : Int) = 45 then 1 else 0) := by
  have hsz := size_data s
  have hlt : i < s.data.toList.length := by omega
  unfold dashes
  rw [List.take_succ_eq_append_getElem hlt, List.count_append]
  by_cases h1 : bt s (i : Int) = 45
  · rw [if_pos h1]
    rw [bt_is s i (by omega) 45 45 (by decide)] at h1
    rw [h1]; rfl
  · rw [if_neg h1]
    rw [bt_is s i (by omega) 45 45 (by decide)] at h1
    rw [List.count_singleton, if_neg (by rw [beq_iff_eq]; exact h1)]
theorem dashes_le (s : ByteArray) (i : Nat) : dashes s i ≤ i := by
  unfold dashes
  exact Nat.le_trans List.count_le_length (by rw [List.length_take]; omega)
theorem l2Time_l0 (s : ByteArray) (hs : s.size ≤ 1048576) (d : Nat) (m : Int) (hm : 0 ≤ m ∧ m ≤ 1048576) : ∀ (k i : Nat), i ≤ s.size → s.size - i = d → d < k →
    spec_l2Time.l0 k s (m + (i : Int) + 2 * (dashes s i : Int)) (i : Int) = some (m + (s.size : Int) + 2 * (dashes s s.size : Int)) := by
  induction d with
  | zero =>
    intro k i hi hd hk
    obtain ⟨k, rfl⟩ := pred_of_lt hk
    simp only [spec_l2Time.l0]; rw [if_neg (by omega), show i = s.size by omega]
  | succ d ih =>
    intro k i hi hd hk
    obtain ⟨k, rfl⟩ := pred_of_lt hk
    have c1 : (i : Int) < (s.size : Int) := by omega
    have c2 : (0 : Int) ≤ (i : Int) := by omega
    have hle := dashes_le s i
    have e : wrap64 ((i : Int) + 1) = ((i + 1 : Nat) : Int) := by rw [wr (by omega) (by omega)]; omega
    have hs' := dashes_succ s i (by omega)
    have e2 : wrap64 (m + (i : Int) + 2 * (dashes s i : Int) + 1) = m + (i : Int) + 2 * (dashes s i : Int) + 1 := by rw [wr (by omega) (by omega)]
    have e3 : wrap64 (m + (i : Int) + 2 * (dashes s i : Int) + 1 + 2) = m + (i : Int) + 2 * (dashes s i : Int) + 1 + 2 := by rw [wr (by omega) (by omega)]
    have n := ih k (i + 1) (by omega) (by omega) (by omega)
    simp only [spec_l2Time.l0, c1, c2, if_true, e, e2, e3]
    by_cases h45 : bt s (i : Int) = 45
    · rw [if_pos h45] at hs' ⊢
      rw [← n]; congr 1; rw [hs']; omega
    · rw [if_neg h45] at hs' ⊢
      rw [← n]; congr 1; rw [hs']; omega
theorem l2Time_eq (s : ByteArray) (hs : s.size ≤ 1048576) (h1 : 1 ≤ s.size) (k : Nat) (hk : s.size < k) : spec_l2Time.f k s = some (2 * (s.size : Int) - 1 + 2 * (dashes s s.size : Int)) := by
  unfold spec_l2Time.f spec_l1Most.f
  rw [wr (by omega) (by omega)]
  have := l2Time_l0 s hs s.size ((s.size : Int) - 1) (by omega) k 0 (by omega) (by omega) hk
  simp only [dashes, List.take_zero, List.count_nil, Int.natCast_zero, Int.add_zero, Int.mul_zero] at this
  by_cases h : (0 : Int) > (s.size : Int) - 1
  · omega
  · rw [if_neg h]
    simp only [Option.bind_some]
    rw [this]; unfold dashes; congr 1; omega
theorem timeOf_eq (s : ByteArray) (hs : s.size ≤ 1048576) (h1 : 1 ≤ s.size) : impl_timeOf.f s = some (2 * (s.size : Int) - 1 + 2 * (dashes s s.size : Int)) := by
  unfold impl_timeOf.f strings_Count.f
  have hsz := size_data s
  have hle := dashes_le s s.size
  have e : Lib.countByte s.data.toList 45 = dashes s s.size := by
    unfold Lib.countByte dashes
    rw [List.take_of_length_le (by omega)]
  simp only [Option.bind_some, e]
  rw [wr (i := 2 * (s.size : Int)) (by omega) (by omega), wr (i := 2 * (s.size : Int) - 1) (by omega) (by omega), wr (i := 2 * (dashes s s.size : Int)) (by omega) (by omega), wr (by omega) (by omega)]
/-! the time of letters in words, as both sides add it up -/
theorem cnt_mem : ∀ (W : List (List ByteArray)) (w : List ByteArray), w ∈ W → w.length ≤ cntW W
  | [], _, h => by cases h
  | a :: W, w, h => by
    rw [cntW_cons]
    rcases List.mem_cons.1 h with h | h
    · rw [h]; omega
    · have := cnt_mem W w h; omega
def tm (s : ByteArray) : Int := 2 * (s.size : Int) - 1 + 2 * (dashes s s.size : Int)
theorem tm_le (s : ByteArray) (h : isMk s 1 5 = true) : 1 ≤ s.size ∧ s.size ≤ 5 ∧ 0 ≤ tm s ∧ tm s ≤ 19 := by
  simp only [isMk, Bool.and_eq_true, decide_eq_true_eq] at h
  have hd := dashes_le s s.size
  unfold tm
  omega
def tw : Nat → List ByteArray → Int
  | _, [] => 0
  | j, a :: t => (if j = 0 then 0 else 3) + tm a + tw (j + 1) t
theorem tw_le : ∀ (w : List ByteArray) (j : Nat), okL w = true → 0 ≤ tw j w ∧ tw j w ≤ 22 * (w.length : Int)
  | [], _, _ => ⟨Int.le_refl _, Int.le_refl _⟩
  | a :: t, j, h => by
    simp only [okL, List.all_cons, Bool.and_eq_true] at h
    have h1 := tw_le t (j + 1) h.2
    have h2 := tm_le a h.1
    simp only [tw, List.length_cons]
    split <;> omega
def tW : Nat → List (List ByteArray) → Int
  | _, [] => 0
  | i, w :: V => (if i = 0 then 0 else 7) + tw 0 w + tW (i + 1) V
theorem sT_l1 (W : List (List ByteArray)) (i : Nat) (hi : i < W.length) (hWl : W.length ≤ 100) (w : List ByteArray) (hw : rd_L1 W (i : Int) = w) (hwl : w.length ≤ 100) (hok : okL w = true) (q : Nat) (hq : 10 ≤ q) (d : Nat) : ∀ (m j : Nat) (x : Int), m = q + d + 1 → j ≤ w.length → w.length - j = d → 0 ≤ x → x + 22 * (d : Int) ≤ 1000000 →
    spec_l2TimeOf.l1 m x W (i : Int) (j : Int) = spec_l2TimeOf.l0 q (x + tw j (w.drop j)) W ((i + 1 : Nat) : Int) := by
  have ci1 : (i : Int) < (W.length : Int) := by omega
  have ci0 : (0 : Int) ≤ (i : Int) := by omega
  have ei : wrap64 ((i : Int) + 1) = ((i + 1 : Nat) : Int) := by rw [wr (by omega) (by omega)]; omega
  induction d with
  | zero =>
    intro m j x hm hj hd hx hx2
    subst hm
    have hjl : j = w.length := by clear ei; omega
    have cj : ¬ (j : Int) < (w.length : Int) := by clear ei; omega
    simp only [spec_l2TimeOf.l1, Nat.add_zero, ci0, ci1, if_true, hw, cj, if_false, ei]
    rw [hjl, List.drop_length]
    simp only [tw, Int.add_zero]
  | succ d ih =>
    intro m j x hm hj hd hx hx2
    obtain ⟨m, rfl⟩ : ∃ m', m = m' + 1 := ⟨q + d + 1, by clear ei ih; omega⟩
    have hmq : 10 < m := by clear ei ih; omega
    have hlt : j < w.length := by clear ei ih; omega
    obtain ⟨s, hmk, hget, hdrop⟩ : ∃ s : ByteArray, isMk s 1 5 = true ∧ rdOf ByteArray.empty w (j : Int) = s ∧ tw j (w.drop j) = (if j = 0 then 0 else 3) + tm s + tw (j + 1) (w.drop (j + 1)) := ⟨w[j], List.all_eq_true.1 hok _ (List.getElem_mem hlt), rdS_get w j hlt, by rw [List.drop_eq_getElem_cons hlt]; rfl⟩
    have htm := tm_le s hmk
    have hT : spec_l2Time.f m s = some (tm s) := l2Time_eq s (by clear ei ih; omega) htm.1 m (by clear ei ih; omega)
    have c1 : (j : Int) < (w.length : Int) := by clear ei ih; omega
    have c2 : (0 : Int) ≤ (j : Int) := by clear ei ih; omega
    have e1 : wrap64 ((j : Int) + 1) = ((j + 1 : Nat) : Int) := by clear ei ih; rw [wr (by omega) (by omega)]; omega
    have n := fun y => ih m (j + 1) y (Nat.succ.inj hm) hlt (by rw [Nat.sub_add_eq, hd]; rfl)
    rw [hdrop]
    simp only [spec_l2TimeOf.l1, ci0, ci1, c1, c2, if_true, hw, hget, hT, Option.bind_some, e1]
    clear e1 ei ih
    by_cases h0 : (j : Int) > 0
    · rw [if_pos h0, if_neg (by omega), wr (i := x + 3) (by clear n; omega) (by clear n; omega), wr (by clear n; omega) (by clear n; omega), n _ (by clear n; omega) (by clear n; omega)]
      congr 1; clear n; omega
    · rw [if_neg h0, if_pos (by omega), wr (by clear n; omega) (by clear n; omega), n _ (by clear n; omega) (by clear n; omega)]
      congr 1; clear n; omega
theorem iT_l1 (W : List (List ByteArray)) (i : Nat) (hi : i < W.length) (hWl : W.length ≤ 100) (w : List ByteArray) (hwl : w.length ≤ 100) (hok : okL w = true) (q d : Nat) : ∀ (m j : Nat) (x : Int), m = q + d + 1 → j ≤ w.length → w.length - j = d → 0 ≤ x → x + 22 * (d : Int) ≤ 1000000 →
    impl_signalTime.l1 m x W (W.length : Int) (i : Int) w (w.length : Int) (j : Int) = impl_signalTime.l0 q (x + tw j (w.drop j)) W (W.length : Int) ((i + 1 : Nat) : Int) := by
  have ei : wrap64 ((i : Int) + 1) = ((i + 1 : Nat) : Int) := by rw [wr (by omega) (by omega)]; omega
  induction d with
  | zero =>
    intro m j x hm hj hd hx hx2
    subst hm
    have hjl : j = w.length := by clear ei; omega
    have cj : ¬ (j : Int) < (w.length : Int) := by clear ei; omega
    simp only [impl_signalTime.l1, Nat.add_zero, cj, if_false, ei]
    rw [hjl, List.drop_length]
    simp only [tw, Int.add_zero]
  | succ d ih =>
    intro m j x hm hj hd hx hx2
    obtain ⟨m, rfl⟩ : ∃ m', m = m' + 1 := ⟨q + d + 1, by clear ei ih; omega⟩
    have hlt : j < w.length := by clear ei ih; omega
    obtain ⟨s, hmk, hget, hdrop⟩ : ∃ s : ByteArray, isMk s 1 5 = true ∧ rdOf ByteArray.empty w (j : Int) = s ∧ tw j (w.drop j) = (if j = 0 then 0 else 3) + tm s + tw (j + 1) (w.drop (j + 1)) := ⟨w[j], List.all_eq_true.1 hok _ (List.getElem_mem hlt), rdS_get w j hlt, by rw [List.drop_eq_getElem_cons hlt]; rfl⟩
    have htm := tm_le s hmk
    have hT : impl_timeOf.f s = some (tm s) := timeOf_eq s (by clear ei ih; omega) htm.1
    have c1 : (j : Int) < (w.length : Int) := by clear ei ih; omega
    have c2 : (0 : Int) ≤ (j : Int) := by clear ei ih; omega
    have e1 : wrap64 ((j : Int) + 1) = ((j + 1 : Nat) : Int) := by clear ei ih; rw [wr (by omega) (by omega)]; omega
    have n := fun y => ih m (j + 1) y (Nat.succ.inj hm) hlt (by rw [Nat.sub_add_eq, hd]; rfl)
    rw [hdrop]
    simp only [impl_signalTime.l1, c1, c2, if_true, hget, hT, Option.bind_some, e1]
    clear e1 ei ih
    by_cases h0 : (j : Int) > 0
    · rw [if_pos h0, if_neg (by omega), wr (i := x + tm s) (by clear n; omega) (by clear n; omega), wr (by clear n; omega) (by clear n; omega), n _ (by clear n; omega) (by clear n; omega)]
      congr 1; clear n; omega
    · rw [if_neg h0, if_pos (by omega), wr (by clear n; omega) (by clear n; omega), n _ (by clear n; omega) (by clear n; omega)]
      congr 1; clear n; omega
theorem time_l0 (W : List (List ByteArray)) (hWl : W.length ≤ 100) (hW : ∀ w ∈ W, w.length ≤ 100 ∧ okL w = true) (q0 : Nat) (hq0 : 10 ≤ q0) (d : Nat) : ∀ (m i : Nat) (x : Int), m = q0 + fuW (W.drop i) + 1 → i ≤ W.length → W.length - i = d → 0 ≤ x → x + 2300 * (d : Int) ≤ 500000 →
    spec_l2TimeOf.l0 m x W (i : Int) = some (x + tW i (W.drop i)) ∧ impl_signalTime.l0 m x W (W.length : Int) (i : Int) = some (x + tW i (W.drop i)) := by
  induction d with
  | zero =>
    intro m i x hm hi hd hx hx2
    subst hm
    have hil : i = W.length := by omega
    have hdr : W.drop i = [] := by rw [hil, List.drop_length]
    have ci : ¬ (i : Int) < (W.length : Int) := by omega
    simp only [spec_l2TimeOf.l0, impl_signalTime.l0, ci, if_false, hdr, tW, Int.add_zero]
    exact ⟨trivial, trivial⟩
  | succ d ih =>
    intro m i x hm hi hd hx hx2
    have hlt : i < W.length := by omega
    obtain ⟨w, hwl, hok, hget, hdr⟩ : ∃ w : List ByteArray, w.length ≤ 100 ∧ okL w = true ∧ rd_L1 W (i : Int) = w ∧ W.drop i = w :: W.drop (i + 1) := ⟨W[i], (hW _ (List.getElem_mem hlt)).1, (hW _ (List.getElem_mem hlt)).2, rdL_get W i hlt, List.drop_eq_getElem_cons hlt⟩
    have hfu : fuW (w :: W.drop (i + 1)) = w.length + 2 + fuW (W.drop (i + 1)) := by simp [fuW]
    rw [hdr] at hm ⊢
    rw [hfu] at hm
    obtain ⟨q, hq⟩ : ∃ q, q = q0 + fuW (W.drop (i + 1)) + 1 := ⟨_, rfl⟩
    obtain ⟨p, hp⟩ : ∃ p, p = q + w.length + 1 := ⟨_, rfl⟩
    obtain rfl : m = p + 1 := by omega
    have htw := tw_le w 0 hok
    have c1 : (i : Int) < (W.length : Int) := by omega
    have c0 : (0 : Int) ≤ (i : Int) := by omega
    have hz : ((0 : Nat) : Int) = 0 := rfl
    have s := fun y h1 h2 => sT_l1 W i hlt hWl w hget hwl hok q (by omega) w.length p 0 y hp (by omega) (by omega) h1 h2
    have t := fun y h1 h2 => iT_l1 W i hlt hWl w hwl hok q w.length p 0 y hp (by omega) (by omega) h1 h2
    rw [List.drop_zero, hz] at s t
    simp only [spec_l2TimeOf.l0, impl_signalTime.l0, c1, c0, if_true, hget, tW]
    by_cases h0 : (i : Int) > 0
    · have n := ih q (i + 1) (x + 7 + tw 0 w) hq hlt (by rw [Nat.sub_add_eq, hd]; rfl) (by omega) (by omega)
      have ea : x + ((if i = 0 then 0 else 7) + tw 0 w + tW (i + 1) (W.drop (i + 1))) = x + 7 + tw 0 w + tW (i + 1) (W.drop (i + 1)) := by rw [if_neg (by omega)]; omega
      rw [if_pos h0, if_pos h0, wr (by omega) (by omega), s _ (by omega) (by omega), t _ (by omega) (by omega), ea]
      exact n
    · have n := ih q (i + 1) (x + tw 0 w) hq hlt (by rw [Nat.sub_add_eq, hd]; rfl) (by omega) (by omega)
      have ea : x + ((if i = 0 then 0 else 7) + tw 0 w + tW (i + 1) (W.drop (i + 1))) = x + tw 0 w + tW (i + 1) (W.drop (i + 1)) := by rw [if_pos (by omega)]; omega
      rw [if_neg h0, if_neg h0, s _ (by omega) (by omega), t _ (by omega) (by omega), ea]
      exact n
theorem goodT_mk : ∀ (l seen : List ByteArray), goodT seen l = true → ∀ c ∈ l, isMk c 1 5 = true
  | [], _, _, c, h => by cases h
  | a :: t, seen, h, c, hc => by
    simp only [goodT, Bool.and_eq_true] at h
    rcases List.mem_cons.1 hc with rfl | hc
    · exact h.1
    · exact goodT_mk t _ h.2.2 c hc
/-! the words of a message's signal -/
theorem toL_ext (a b : ByteArray) (h : a.data.toList = b.data.toList) : a = b := ByteArray.ext (Array.toList_inj.1 h)
theorem ext_L (s : ByteArray) (i j : Nat) : (s.extract i j).data.toList = (s.data.toList.drop i).take (j - i) := by
  rw [ByteArray.data_extract, Array.toList_extract, List.extract_eq_take_drop]
theorem app_L (a b : ByteArray) : (a ++ b).data.toList = a.data.toList ++ b.data.toList := by
  rw [ByteArray.data_append, Array.toList_append]
theorem whole_L (s : ByteArray) : s.extract 0 s.size = s := toL_ext _ _ (by
  rw [ext_L, Nat.sub_zero, List.drop_zero, List.take_of_length_le (by rw [size_data]; omega)])
theorem notIn {x : ByteArray} {c : UInt8} (h : c ∉ x.data.toList) (k : Nat) : x.data.toList[k]? ≠ some c := fun e => h (List.mem_of_getElem? e)
theorem pieces_none (x : ByteArray) (c : UInt8) (h : c ∉ x.data.toList) : pieces x c = [x] := by
  have := pieces_end x c 0 (fun k _ => notIn h k)
  rw [whole_L] at this
  exact this
theorem pieces_app (x y : ByteArray) (c : UInt8) (h : c ∉ x.data.toList) : pieces ((x ++ (⟨#[c]⟩ : ByteArray)) ++ y) c = x :: pieces y c := by
  obtain ⟨s, hs⟩ : ∃ s, s = (x ++ (⟨#[c]⟩ : ByteArray)) ++ y := ⟨_, rfl⟩
  have hc1 : (⟨#[c]⟩ : ByteArray).data.toList = [c] := rfl
  have hl : s.data.toList = x.data.toList ++ c :: y.data.toList := by rw [hs, app_L, app_L, hc1]; simp
  have hx := size_data x
  have hy := size_data y
  have hsz := size_data s
  have hlen : s.size = x.size + 1 + y.size := by rw [← hsz, hl]; simp; omega
  have hit := pieces_hit s c 0 x.size (by omega) (by omega) (by rw [hl, List.getElem?_append_right (by omega), hx, Nat.sub_self]; rfl) (fun k _ hk => by
    rw [hl, List.getElem?_append_left (by omega)]; exact notIn h k)
  rw [whole_L] at hit
  have e1 : s.extract 0 x.size = x := toL_ext _ _ (by
    rw [ext_L, hl, List.drop_zero, Nat.sub_zero, ← hx, List.take_left])
  have e2 : s.extract (x.size + 1) s.size = y := toL_ext _ _ (by
    rw [ext_L, hl, List.take_of_length_le (by rw [List.length_drop, List.length_append, List.length_cons]; omega), ← hx, ← List.drop_drop, List.drop_left]; rfl)
  rw [e1, e2] at hit
  rw [← hs]; exact hit
theorem joinB_cons (c : UInt8) (x y : ByteArray) (l : List ByteArray) : joinB c (x :: y :: l) = (x ++ (⟨#[c]⟩ : ByteArray)) ++ joinB c (y :: l) := by
  have hc1 : (⟨#[c]⟩ : ByteArray).data.toList = [c] := rfl
  refine toL_ext _ _ ?_
  rw [app_L, app_L, hc1]
  show Lib.join ((x :: y :: l).map (·.data.toList)) [c] = x.data.toList ++ [c] ++ Lib.join ((y :: l).map (·.data.toList)) [c]
  simp only [List.map_cons, Lib.join_cons, Lib.joinTail, List.flatten_cons]
  simp
theorem pieces_join (c : UInt8) : ∀ (x : ByteArray) (l : List ByteArray), (∀ y ∈ x :: l, c ∉ y.data.toList) → pieces (joinB c (x :: l)) c = x :: l
  | x, [], h => by rw [joinB_one]; exact pieces_none x c (h x (by simp))
  | x, y :: l, h => by
    rw [joinB_cons, pieces_app _ _ _ (h x (by simp)), pieces_join c y l (fun z hz => h z (by simp at hz ⊢; right; exact hz))]
theorem fields_ne : ∀ (l cur : List UInt8) (w : List UInt8), w ∈ Lib.fieldsGo cur l → w ≠ []
  | [], cur, w, h => by
    simp only [Lib.fieldsGo] at h
    split at h
    · cases h
    · rename_i hc
      rw [List.mem_singleton.1 h]
      intro e; rw [e] at hc; exact hc rfl
  | b :: l, cur, w, h => by
    simp only [Lib.fieldsGo] at h
    split at h
    · split at h
      · exact fields_ne l [] w h
      · rename_i hc
        rcases List.mem_cons.1 h with rfl | h
        · intro e; rw [e] at hc; exact hc rfl
        · exact fields_ne l [] w h
    · exact fields_ne l _ w h
theorem mk1_mem (T : List ByteArray) (c : UInt8) (h : letOk T.length c = true) : mk1 T c ∈ T := by
  have := letOk_le h
  unfold mk1
  rw [List.getD_eq_getElem?_getD, List.getElem?_eq_getElem (by omega)]
  exact List.getElem_mem _
theorem mk_no (T : List ByteArray) (hdd : ∀ c ∈ T, c.data.toList.all dotDash = true) (x : UInt8) (h1 : x ≠ 46) (h2 : x ≠ 45) (m : ByteArray) (hm : m ∈ T) : x ∉ m.data.toList := fun h => by
  have := List.all_eq_true.1 (hdd m hm) x h
  simp [dotDash, h1, h2] at this
theorem Jw_no (T : List ByteArray) (hdd : ∀ c ∈ T, c.data.toList.all dotDash = true) (x : UInt8) (h1 : x ≠ 46) (h2 : x ≠ 45) (h3 : x ≠ 32) : ∀ w : List UInt8, w.all (letOk T.length) = true → x ∉ (Jw T w).data.toList
  | [], _ => by unfold Jw; rw [List.map_nil, joinB_nil]; intro h; cases h
  | [c], h => by
    simp only [List.all_cons, Bool.and_eq_true] at h
    unfold Jw; rw [List.map_cons, List.map_nil, joinB_one]
    exact mk_no T hdd x h1 h2 _ (mk1_mem T c h.1)
  | c :: d :: w, h => by
    have h' := h
    simp only [List.all_cons, Bool.and_eq_true] at h
    have ih := Jw_no T hdd x h1 h2 h3 (d :: w) (by simp only [List.all_cons, Bool.and_eq_true]; exact h.2)
    have e : Jw T (c :: d :: w) = (mk1 T c ++ (⟨#[32]⟩ : ByteArray)) ++ Jw T (d :: w) := joinB_cons 32 _ _ _
    have e32 : (⟨#[32]⟩ : ByteArray).data.toList = [32] := rfl
    rw [e, app_L, app_L, e32]
    intro hx
    rcases List.mem_append.1 hx with hx | hx
    · rcases List.mem_append.1 hx with hx | hx
      · exact mk_no T hdd x h1 h2 _ (mk1_mem T c h.1) hx
      · exact h3 (List.mem_singleton.1 hx)
    · exact ih hx
theorem words_of (T : List ByteArray) (hdd : ∀ c ∈ T, c.data.toList.all dotDash = true) (F : List (List UInt8)) (hF : F ≠ []) (hw : ∀ w ∈ F, w.all (letOk T.length) = true ∧ w ≠ []) : wordsL (joinB 47 (F.map (Jw T))) = F.map fun w => w.map (mk1 T) := by
  unfold wordsL
  obtain ⟨f, G, rfl⟩ : ∃ f G, F = f :: G := by cases F with
    | nil => exact absurd rfl hF
    | cons f G => exact ⟨f, G, rfl⟩
  rw [List.map_cons, pieces_join 47 _ _ (by
    intro y hy
    rw [← List.map_cons] at hy
    obtain ⟨w, hwF, rfl⟩ := List.mem_map.1 hy
    exact Jw_no T hdd 47 (by decide) (by decide) (by decide) w (hw w hwF).1), ← List.map_cons, List.map_map]
  refine List.map_congr_left fun w hwF => ?_
  obtain ⟨h1, h2⟩ := hw w hwF
  show pieces (Jw T w) 32 = _
  obtain ⟨c, v, rfl⟩ : ∃ c v, w = c :: v := by cases w with
    | nil => exact absurd rfl h2
    | cons c v => exact ⟨c, v, rfl⟩
  unfold Jw
  rw [List.map_cons]
  refine pieces_join 32 _ _ ?_
  intro y hy
  rw [← List.map_cons] at hy
  obtain ⟨d, hd, rfl⟩ := List.mem_map.1 hy
  exact mk_no T hdd 32 (by decide) (by decide) _ (mk1_mem T d (List.all_eq_true.1 h1 d hd))
/-- the words of a valid message's signal are few, and their letters are marks -/
theorem enc_words (T : List ByteArray) (ht : isTab T = true) (m : ByteArray) (hm : isMsg T m = true) (h0 : (encB T m).size ≠ 0) : (wordsL (encB T m)).length ≤ 50 ∧ ∀ w ∈ wordsL (encB T m), w.length ≤ 50 ∧ okL w = true := by
  obtain ⟨hmem, _, _, h10⟩ := isTab_mem T ht
  obtain ⟨h12, hall, hr⟩ := isMsg_okR T m hm
  have hgood : goodT [] T = true := by simp only [isTab, Bool.and_eq_true] at ht; exact ht.2
  have hmk := goodT_mk T [] hgood
  have hdd : ∀ c ∈ T, c.data.toList.all dotDash = true := fun c hc => by
    have := hmk c hc
    simp only [isMk, Bool.and_eq_true] at this
    exact this.2
  have he : encB T m = joinB 47 ((Lib.fields m.data.toList).map (Jw T)) := (words_enc T T.length h10 _ hr).symm
  have hsz := size_data m
  have hwd : ∀ w ∈ Lib.fields m.data.toList, (w.all (letOk T.length) = true ∧ w ≠ []) ∧ w.length ≤ 50 := fun w hw => by
    rcases hr with h0 | h0
    · rw [h0] at hw; cases hw
    · have := words_ok T.length m.data.toList false [] h0 rfl w hw
      rw [List.length_nil] at this
      exact ⟨⟨this.1, fields_ne _ _ w hw⟩, by omega⟩
  have hF : (Lib.fields m.data.toList).length ≤ 13 := by
    have := strings_Fields.cnt m.data.toList true
    rw [← Lib.fields_length] at this
    omega
  have hne : Lib.fields m.data.toList ≠ [] := fun e => h0 (by rw [he, e, List.map_nil, joinB_nil]; rfl)
  have hw := words_of T hdd _ hne (fun w hw => (hwd w hw).1)
  rw [he, hw]
  refine ⟨by rw [List.length_map]; omega, fun x hx => ?_⟩
  obtain ⟨w, hwF, rfl⟩ := List.mem_map.1 hx
  obtain ⟨⟨h1, _⟩, h3⟩ := hwd w hwF
  refine ⟨by rw [List.length_map]; exact h3, ?_⟩
  unfold okL
  rw [List.all_eq_true]
  intro y hy
  obtain ⟨c, hc, rfl⟩ := List.mem_map.1 hy
  exact hmk _ (mk1_mem T c (List.all_eq_true.1 h1 c hc))
theorem Jw_size (T : List ByteArray) (hT5 : ∀ c ∈ T, c.size ≤ 5) : ∀ w : List UInt8, (Jw T w).size ≤ 6 * w.length
  | [] => by unfold Jw; rw [List.map_nil, joinB_nil]; exact Nat.le_refl 0
  | [c] => by unfold Jw; rw [List.map_cons, List.map_nil, joinB_one]; have := mk1_size T hT5 c; simp; omega
  | c :: d :: w => by
    have ih := Jw_size T hT5 (d :: w)
    have e : Jw T (c :: d :: w) = (mk1 T c ++ (⟨#[32]⟩ : ByteArray)) ++ Jw T (d :: w) := joinB_cons 32 _ _ _
    have z : (⟨#[32]⟩ : ByteArray).size = 1 := rfl
    have := mk1_size T hT5 c
    rw [e, ByteArray.size_append, ByteArray.size_append, z]
    simp only [List.length_cons] at ih ⊢
    omega
theorem outS_size (T : List ByteArray) (hT5 : ∀ c ∈ T, c.size ≤ 5) : ∀ (l : List UInt8) (p : Bool) (a : ByteArray), (outS T p l a).size ≤ a.size + 6 * l.length
  | [], p, a => Nat.le_refl _
  | c :: l, p, a => by
    have z47 : (⟨#[47]⟩ : ByteArray).size = 1 := rfl
    have z32 : (⟨#[32]⟩ : ByteArray).size = 1 := rfl
    have h5 := mk1_size T hT5 c
    simp only [outS, List.length_cons]
    split
    · have := outS_size T hT5 l false (a ++ (⟨#[47]⟩ : ByteArray))
      rw [ByteArray.size_append, z47] at this; omega
    · cases p with
      | true =>
        have := outS_size T hT5 l true ((a ++ (⟨#[32]⟩ : ByteArray)) ++ mk1 T c)
        rw [ByteArray.size_append, ByteArray.size_append, z32] at this
        rw [if_pos rfl]; omega
      | false =>
        have := outS_size T hT5 l true (a ++ mk1 T c)
        rw [ByteArray.size_append] at this
        rw [if_neg (by decide)]; omega
theorem time_both (T : List ByteArray) (ht : isTab T = true) (m : ByteArray) (hm : isMsg T m = true) : ∃ r, ∀ k, 8388700 ≤ k → spec_l2TimeOf.f k (encB T m) = some r ∧ impl_signalTime.f k (encB T m) = some r := by
  obtain ⟨hmem, _, _, h10⟩ := isTab_mem T ht
  obtain ⟨h12, hall, _⟩ := isMsg_okR T m hm
  have h5 : ∀ c ∈ T, c.size ≤ 5 := fun c hc => (hmem c hc).2
  have hsz := size_data m
  have hz : (encB T m).size ≤ 72 := by
    have z0 : (⟨#[]⟩ : ByteArray).size = 0 := rfl
    have := outS_size T h5 m.data.toList false (⟨#[]⟩ : ByteArray)
    rw [z0] at this
    unfold encB; omega
  obtain ⟨s, hs⟩ : ∃ s, s = encB T m := ⟨_, rfl⟩
  have ew := enc_words T ht m hm
  rw [← hs] at hz ew ⊢
  by_cases h0 : s.size = 0
  · refine ⟨0, fun k hk => ?_⟩
    have w0 : wordsI s = [] := by unfold wordsI; rw [if_pos h0]
    have hlo := lettersOf_eq s (by omega) k (by omega)
    rw [w0] at hlo
    unfold spec_l2TimeOf.f impl_signalTime.f
    rw [hlo]
    simp only [Option.bind_some, isNil, h0, if_true]
    obtain ⟨k, rfl⟩ : ∃ m, k = m + 1 := ⟨k - 1, by omega⟩
    simp only [impl_signalTime.l0, List.length_nil]
    rw [if_neg (by omega)]
    exact ⟨trivial, rfl⟩
  · obtain ⟨e1, e2⟩ := ew h0
    have f1 := fuW_eq (wordsL s)
    have hc : cntW (wordsL s) ≤ s.size + 1 := wordsL_cnt s
    refine ⟨0 + tW 0 (wordsL s), fun k hk => ?_⟩
    have w0 : wordsI s = wordsL s := by unfold wordsI; rw [if_neg h0]
    have hlo := lettersOf_eq s (by omega) k (by omega)
    rw [w0] at hlo
    have hwo := l2Words_eq s (by omega) k (by omega)
    have hm : ∀ w ∈ wordsL s, w.length ≤ 100 ∧ okL w = true := fun w hw => ⟨by have := (e2 w hw).1; omega, (e2 w hw).2⟩
    have t := time_l0 (wordsL s) (by omega) hm (k - fuW (wordsL s) - 1) (by omega) (wordsL s).length k 0 0 (by rw [List.drop_zero]; omega) (by omega) (by omega) (by omega) (by omega)
    have hz : ((0 : Nat) : Int) = 0 := rfl
    rw [List.drop_zero, hz] at t
    unfold spec_l2TimeOf.f impl_signalTime.f
    rw [hlo, hwo]
    simp only [Option.bind_some, isNil, h0, if_false, t.1, t.2]
    exact ⟨trivial, trivial⟩
theorem FnExactTimeOfMessage : laws_FnExactTimeOfMessage.Pure := by
  intro l a1 hl hs _
  by_cases hsz : (a1.size : Int) > 1048576
  · refine ⟨0, ?_⟩
    unfold laws_FnExactTimeOfMessage.f
    rw [if_pos hsz]
  obtain ⟨t, ht, hb⟩ := szTable_eq l hl hs
  by_cases h0 : t < 0
  · refine ⟨l.length + 1, ?_⟩
    unfold laws_FnExactTimeOfMessage.f
    simp only [ht (l.length + 1) (by omega), Option.bind_some, h0, if_true, if_false, ite_self, hsz]
  · obtain ⟨h1, h2⟩ := hb (by omega)
    obtain ⟨r, b, hR⟩ : ∃ (r : Int) (b : Bool), ∀ k, 8388700 ≤ k → spec_TimeOfMessage.f k l a1 = some (r, b) ∧ impl_TimeOfMessage.f k l a1 = some (r, b) := by
      by_cases htb : isTab l = true
      · obtain ⟨hmem, _, _, h10⟩ := isTab_mem l htb
        have h5 : ∀ c ∈ l, c.size ≤ 5 := fun c hc => (hmem c hc).2
        by_cases hm : isMsg l a1 = true
        · obtain ⟨h12, hall, _⟩ := isMsg_okR l a1 hm
          obtain ⟨r, hr⟩ := time_both l htb a1 hm
          refine ⟨r, true, fun k hk => ?_⟩
          obtain ⟨r1, r2⟩ := hr k hk
          unfold spec_TimeOfMessage.f impl_TimeOfMessage.f impl_areValid.f
          rw [l2Table_eq l h1 h2 _ (by omega), isTable_eq l h1 h2 _ (by omega), htb, l2Message_eq l h1 a1 (by omega) k (by omega), isMessage_eq l h1 a1 (by omega) k (by omega), hm, l2Encode_eq l h10 h5 a1 (by omega) hall k (by omega), encode_eq l h10 h5 a1 hm k (by omega)]
          simp only [Option.bind_some, if_true, r1, r2]
          exact ⟨trivial, trivial⟩
        · refine ⟨0, false, fun k hk => ?_⟩
          unfold spec_TimeOfMessage.f impl_TimeOfMessage.f impl_areValid.f
          rw [l2Table_eq l h1 h2 _ (by omega), isTable_eq l h1 h2 _ (by omega), htb, l2Message_eq l h1 a1 (by omega) k (by omega), isMessage_eq l h1 a1 (by omega) k (by omega), (Bool.not_eq_true _).mp hm]
          exact ⟨rfl, rfl⟩
      · refine ⟨0, false, fun k hk => ?_⟩
        unfold spec_TimeOfMessage.f impl_TimeOfMessage.f impl_areValid.f
        rw [l2Table_eq l h1 h2 _ (by omega), isTable_eq l h1 h2 _ (by omega), (Bool.not_eq_true _).mp htb]
        exact ⟨rfl, rfl⟩
    obtain ⟨M, hM⟩ : ∃ M : Nat, 8388700 ≤ M := ⟨8388700, Nat.le_refl _⟩
    refine ⟨M, ?_⟩
    have rr := hR M hM
    unfold laws_FnExactTimeOfMessage.f
    simp only [ht M (by omega), Option.bind_some, h0, if_false, hsz]
    simp only [toTable_eq l h1 M (by omega), rr.1, rr.2, eqTable_self l h1 M (by omega), Option.bind_some, bne_self_eq_false, Bool.false_eq_true, if_false, if_true]

end Go.Proofs.YtbdagfdhkobbcaaDoor.Pure
