/- BareOf of the program and of the reference answer alike at every table and text. -/
import Derived.Test.YtpdojionnmehbaaGreatDoorHFnExactBareOfx6
namespace Go.Proofs.YtpdojionnmehbaaGreatDoor.Pure
open Go.RowKit Go.Proofs.YtpdojionnmehbaaGreatDoor.HFnExactBareOf Go.Proofs.YtpdojionnmehbaaGreatDoorW.PrintWords Go.Proofs.YtpdojionnmehbaaGreatDoorW.PrintLast
set_option linter.unusedVariables false
set_option linter.unusedSimpArgs false
set_option linter.unnecessarySimpa false

theorem wr {i : Int} (h0 : -9223372036854775808 ≤ i) (h1 : i ≤ 9223372036854775807) : wrap64 i = i := by unfold wrap64; omega
theorem rd_nat (xs : List Int) (i : Nat) : rd xs (i : Int) = xs.getD i 0 := by simp [rd]
theorem rd_get (xs : List Int) (i : Nat) (h : i < xs.length) : rd xs (i : Int) = xs[i] := by simp [rd, h]
theorem pred_of_lt {d k : Nat} (h : d < k) : ∃ m, k = m + 1 := ⟨k - 1, by omega⟩
/-! bytes of a text -/
theorem size_data (s : ByteArray) : s.data.toList.length = s.size := Array.length_toList
theorem bt_nat (s : ByteArray) (i : Nat) (h : i < s.size) : bt s (i : Int) = ((s.data.toList[i]'(by rw [size_data]; exact h)).toNat : Int) := by
  have := bt_at s (i : Int) (by simpa using h)
  rw [← this]
  rfl
theorem byte_num (b c : UInt8) (n : Nat) (hc : c.toNat = n) : ((b.toNat : Int) = (n : Int)) ↔ b = c := by
  constructor
  · intro h
    exact UInt8.toNat_inj.1 (by omega)
  · rintro rfl; omega
/-! what is left when bytes of a set are taken off both ends -/
theorem dropWhile_nil {p : UInt8 → Bool} (l : List UInt8) : l.dropWhile p = [] ↔ l.all p = true := by
  induction l with
  | nil => simp
  | cons a l ih =>
    rw [List.dropWhile_cons]
    by_cases h : p a = true
    · rw [if_pos h, ih]; simp [h]
    · rw [if_neg h]; simp [h]
theorem trimS_nil (l cs : List UInt8) : Lib.trimS l cs = [] ↔ l.all (cs.contains ·) = true := by
  unfold Lib.trimS Lib.trimLeftS Lib.trimRightS
  rw [dropWhile_nil]
  constructor
  · intro h
    by_cases hr : (l.reverse.dropWhile (cs.contains ·)) = []
    · rw [dropWhile_nil, List.all_reverse] at hr; exact hr
    · exfalso
      rw [List.all_reverse] at h
      cases hd : l.reverse.dropWhile (cs.contains ·) with
      | nil => exact hr hd
      | cons a t =>
        have ha : cs.contains a = false := by
          have := List.head?_dropWhile_not (cs.contains ·) l.reverse
          rw [hd] at this
          simpa using this
        rw [hd] at h
        simp at h
        rw [List.contains_eq_mem] at ha
        simp [h.1] at ha
  · intro h
    have : (l.reverse.dropWhile (cs.contains ·)) = [] := by
      rw [dropWhile_nil, List.all_reverse]; exact h
    rw [this]; rfl
theorem toList_nil (l : List UInt8) : ((⟨l.toArray⟩ : ByteArray).toList == ([] : List UInt8)) = l.isEmpty := by
  have : (⟨l.toArray⟩ : ByteArray).toList = l := by
    rw [ByteArray.toList_eq]
  rw [this]
  cases l <;> rfl
theorem l1In_eq (a b c : Int) : spec_l1In.f a b c = some (decide (b ≤ a) && decide (a ≤ c)) := by
  unfold spec_l1In.f
  by_cases h : a ≥ b
  · rw [if_pos h]; simp [show b ≤ a from h]
  · rw [if_neg h]; simp [show ¬ b ≤ a from h]
theorem in_eq (a b c : Int) : impl_in.f a b c = some (decide (b ≤ a) && decide (a ≤ c)) := by
  unfold impl_in.f
  by_cases h : a ≥ b
  · rw [if_pos h]; simp [show b ≤ a from h]
  · rw [if_neg h]; simp [show ¬ b ≤ a from h]
/-! lists of texts: their sizes, copies, comparisons -/
theorem rdS_get (xs : List ByteArray) (i : Nat) (h : i < xs.length) : rdOf ByteArray.empty xs (i : Int) = xs[i] := by simp [rdOf, h]
theorem toList_inj (a b : ByteArray) : a.toList = b.toList ↔ a = b := by
  rw [ByteArray.toList_eq, ByteArray.toList_eq]
  constructor
  · intro h; exact ByteArray.ext (Array.toList_inj.1 h)
  · rintro rfl; rfl
theorem szStringS_l0 (l : List ByteArray) (hl : l.length ≤ maxLen) (hs : ∀ s ∈ l, s.size ≤ maxLen) (d : Nat) : ∀ (i : Nat) (left : Int), 0 ≤ left → left ≤ 1048576 → i ≤ l.length → l.length - i = d →
    ∃ t : Int, (∀ k, d < k → laws_szStringS.l0 k l left (i : Int) = some t) ∧ t ≤ left ∧ (0 ≤ t → ∀ j (h : j < l.length), i ≤ j → (l[j].size : Int) ≤ left) := by
  unfold maxLen at hl hs
  induction d with
  | zero =>
    intro i left h0 h1 hi hd
    refine ⟨left, fun k hk => ?_, by omega, fun _ j h hij => by omega⟩
    obtain ⟨k, rfl⟩ := pred_of_lt hk
    simp only [laws_szStringS.l0]; rw [if_neg (by omega)]
  | succ d ih =>
    intro i left h0 h1 hi hd
    have hlt : i < l.length := by omega
    have hsz := hs _ (List.getElem_mem hlt)
    have c1 : (i : Int) < (l.length : Int) := by omega
    have c2 : (0 : Int) ≤ (i : Int) := by omega
    have e1 : wrap64 ((i : Int) + 1) = ((i + 1 : Nat) : Int) := by rw [wr (by omega) (by omega)]; omega
    have e2 : wrap64 (left - (l[i].size : Int)) = left - (l[i].size : Int) := by rw [wr (by omega) (by omega)]
    by_cases hc : left - (l[i].size : Int) < 0
    · refine ⟨-1, fun k hk => ?_, by omega, fun h => by omega⟩
      obtain ⟨k, rfl⟩ := pred_of_lt hk
      simp only [laws_szStringS.l0, c1, c2, if_true, rdS_get l i hlt, e2, hc]
    · obtain ⟨t, ht, h2, h3⟩ := ih (i + 1) (left - (l[i].size : Int)) (by omega) (by omega) (by omega) (by omega)
      refine ⟨t, fun k hk => ?_, by omega, fun h0t j h hij => ?_⟩
      · obtain ⟨k, rfl⟩ := pred_of_lt hk
        simp only [laws_szStringS.l0, c1, c2, if_true, rdS_get l i hlt, e2, hc, if_false, e1]
        exact ht k (by omega)
      · by_cases hji : i = j
        · subst hji; omega
        · have := h3 h0t j h (by omega); omega
theorem szStringS_eq (l : List ByteArray) (hl : l.length ≤ maxLen) (hs : ∀ s ∈ l, s.size ≤ maxLen) : ∃ t : Int, (∀ k, l.length < k → laws_szStringS.f k l 1048576 = some t) ∧ (0 ≤ t → l.length ≤ 1048576 ∧ ∀ s ∈ l, s.size ≤ 1048576) := by
  have hl' := hl
  unfold maxLen at hl'
  have e : wrap64 (1048576 - (l.length : Int)) = 1048576 - (l.length : Int) := by rw [wr (by omega) (by omega)]
  by_cases hc : 1048576 - (l.length : Int) < 0
  · refine ⟨-1, fun k hk => ?_, fun h => by omega⟩
    unfold laws_szStringS.f
    rw [e, if_pos hc]
  · obtain ⟨t, ht, h2, h3⟩ := szStringS_l0 l hl hs l.length 0 (1048576 - (l.length : Int)) (by omega) (by omega) (by omega) (by omega)
    refine ⟨t, fun k hk => ?_, fun h0 => ⟨by omega, fun s hsm => ?_⟩⟩
    · unfold laws_szStringS.f
      rw [e, if_neg hc]
      exact ht k hk
    · obtain ⟨j, hj, rfl⟩ := List.getElem_of_mem hsm
      have := h3 h0 j hj (by omega)
      omega
theorem toStringS_l0 (x0 : List ByteArray) (hx : x0.length ≤ 1048576) (d : Nat) : ∀ (k i : Nat) (x3 : List ByteArray), i ≤ x0.length → x0.length - i = d → d < k → x3.length = x0.length → (∀ j, j < i → x3[j]? = x0[j]?) →
    laws_toStringS.l0 k x0 x3 (i : Int) = some x0 := by
  induction d with
  | zero =>
    intro k i x3 hi hd hk hl ht
    obtain ⟨k, rfl⟩ := pred_of_lt hk
    simp only [laws_toStringS.l0]; rw [if_neg (by omega)]
    refine congrArg some (List.ext_getElem? fun j => ?_)
    by_cases hj : j < i
    · exact ht j hj
    · rw [List.getElem?_eq_none (by omega), List.getElem?_eq_none (by omega)]
  | succ d ih =>
    intro k i x3 hi hd hk hl ht
    obtain ⟨k, rfl⟩ := pred_of_lt hk
    simp only [laws_toStringS.l0]; rw [if_pos (by omega), if_pos (by omega), if_pos (by omega), wr (by omega) (by omega)]
    have e : ((i : Int) + 1) = ((i + 1 : Nat) : Int) := by omega
    rw [e, Int.toNat_natCast, rdS_get x0 i (by omega)]
    refine ih k (i + 1) _ (by omega) (by omega) (by omega) (by simpa using hl) fun j hj => ?_
    rw [List.getElem?_set]
    by_cases hji : i = j
    · subst hji
      simp [show i < x3.length by omega, show i < x0.length by omega]
    · rw [if_neg hji]; exact ht j (by omega)
theorem toStringS_eq (l : List ByteArray) (h : l.length ≤ 1048576) (k : Nat) (hk : l.length < k) : laws_toStringS.f k l = some l := by
  unfold laws_toStringS.f
  rw [if_pos (by omega), if_pos (by omega)]
  exact toStringS_l0 l (by omega) l.length k 0 _ (by omega) (by omega) hk (by simp) (fun j hj => by omega)
theorem eqStringS_l0 (a : List ByteArray) (ha : a.length ≤ 1048576) (d : Nat) : ∀ (k i : Nat), i ≤ a.length → a.length - i = d → d < k → laws_eqStringS.l0 k a a (i : Int) = some true := by
  induction d with
  | zero =>
    intro k i hi hd hk
    obtain ⟨k, rfl⟩ := pred_of_lt hk
    simp only [laws_eqStringS.l0]; rw [if_neg (by omega)]
  | succ d ih =>
    intro k i hi hd hk
    obtain ⟨k, rfl⟩ := pred_of_lt hk
    simp only [laws_eqStringS.l0, if_true]; rw [if_pos (by omega), if_pos (by omega), if_pos (by omega), wr (by omega) (by omega)]
    have e : ((i : Int) + 1) = ((i + 1 : Nat) : Int) := by omega
    rw [e]
    exact ih k (i + 1) (by omega) (by omega) (by omega)
theorem eqStringS_self (a : List ByteArray) (ha : a.length ≤ 1048576) (k : Nat) (hk : a.length < k) : laws_eqStringS.f k a a = some true := by
  unfold laws_eqStringS.f
  rw [if_pos rfl]
  exact eqStringS_l0 a ha a.length k 0 (by omega) (by omega) hk
/-! a table that a law is handed -/
theorem szTable_eq (l : List ByteArray) (hl : l.length ≤ maxLen) (hs : ∀ s ∈ l, s.size ≤ maxLen) : ∃ t : Int, (∀ k, l.length < k → laws_szTable.f k l 1048576 = some t) ∧ (0 ≤ t → l.length ≤ 1048576 ∧ ∀ s ∈ l, s.size ≤ 1048576) := by
  obtain ⟨t, ht, h⟩ := szStringS_eq l hl hs
  by_cases h0 : t < 0
  · refine ⟨-1, fun k hk => ?_, fun h => by omega⟩
    unfold laws_szTable.f
    rw [ht k hk]; simp only [Option.bind_some]; rw [if_pos h0]
  · refine ⟨t, fun k hk => ?_, h⟩
    unfold laws_szTable.f
    rw [ht k hk]; simp only [Option.bind_some]; rw [if_neg h0]
theorem toTable_eq (l : List ByteArray) (h : l.length ≤ 1048576) (k : Nat) (hk : l.length < k) : laws_toTable.f k l = some l := by
  unfold laws_toTable.f; rw [toStringS_eq l h k hk]; rfl
theorem eqTable_self (l : List ByteArray) (h : l.length ≤ 1048576) (k : Nat) (hk : l.length < k) : laws_eqTable.f k l l = some true := by
  unfold laws_eqTable.f; rw [eqStringS_self l h k hk]; rfl
/-! marks, as both sides ask for them -/
def dotDash (b : UInt8) : Bool := b == 46 || b == 45
def isMk (s : ByteArray) (lo hi : Int) : Bool := (decide (lo ≤ (s.size : Int)) && decide ((s.size : Int) ≤ hi)) && s.data.toList.all dotDash
theorem bt_is (s : ByteArray) (i : Nat) (h : i < s.size) (c : UInt8) (n : Int) (hc : (c.toNat : Int) = n) : (bt s (i : Int) = n) ↔ (s.data.toList[i]'(by rw [size_data]; exact h)) = c := by
  rw [bt_nat s i h, ← hc]
  constructor
  · intro e; exact UInt8.toNat_inj.1 (by omega)
  · intro e; rw [e]
theorem l2Marks_l0 (s : ByteArray) (hs : s.size ≤ 1048576) (lo hi : Int) (d : Nat) : ∀ (k i : Nat), i ≤ s.size → s.size - i = d → 2 * d + 1 < k → (s.data.toList.take i).all dotDash = true → spec_l2Marks.l0 k s lo hi (i : Int) = some (isMk s lo hi) := by
  have hsz := size_data s
  induction d with
  | zero =>
    intro k i hi' hd hk ht
    obtain ⟨k, rfl⟩ := pred_of_lt hk
    obtain ⟨k, rfl⟩ : ∃ m, k = m + 1 := ⟨k - 1, by omega⟩
    simp only [spec_l2Marks.l0]; rw [if_neg (by omega)]
    simp only [spec_l2Marks.j1]; rw [if_neg (by simp), l1In_eq]
    rw [List.take_of_length_le (by omega)] at ht
    simp only [Option.bind_some, isMk, ht, Bool.and_true]
  | succ d ih =>
    intro k i hi' hd hk ht
    obtain ⟨k, rfl⟩ := pred_of_lt hk
    obtain ⟨k, rfl⟩ : ∃ m, k = m + 1 := ⟨k - 1, by omega⟩
    have c1 : (i : Int) < (s.size : Int) := by omega
    have c2 : (0 : Int) ≤ (i : Int) := by omega
    have e : wrap64 ((i : Int) + 1) = ((i + 1 : Nat) : Int) := by rw [wr (by omega) (by omega)]; omega
    simp only [spec_l2Marks.l0, c1, if_true, spec_l2Marks.j1]
    by_cases h200 : (i : Int) ≤ hi
    · have hd2 : decide ((i : Int) ≤ hi) = true := by simpa using h200
      simp only [hd2, c2, if_true, e]
      have hlt : i < s.data.toList.length := by omega
      have next : dotDash (s.data.toList[i]) = true → spec_l2Marks.l0 k s lo hi ((i + 1 : Nat) : Int) = some (isMk s lo hi) := fun hb => ih k (i + 1) (by omega) (by omega) (by omega) (by
        rw [List.take_succ_eq_append_getElem hlt, List.all_append, ht]; simp only [List.all_cons, List.all_nil, hb, Bool.and_true])
      by_cases h0 : bt s (i : Int) = 46
      · rw [if_pos h0]
        exact next (by rw [bt_is s i (by omega) 46 46 (by decide)] at h0; rw [h0]; decide)
      · rw [if_neg h0]
        by_cases h1 : bt s (i : Int) = 45
        · rw [if_pos h1]
          exact next (by rw [bt_is s i (by omega) 45 45 (by decide)] at h1; rw [h1]; decide)
        · rw [if_neg h1]
          rw [bt_is s i (by omega) 46 46 (by decide)] at h0
          rw [bt_is s i (by omega) 45 45 (by decide)] at h1
          have hm : s.data.toList[i] ∈ s.data.toList := List.getElem_mem _
          have hf : s.data.toList.all dotDash = false := by
            rw [List.all_eq_false]; exact ⟨_, hm, by simp only [dotDash, Bool.or_eq_true, beq_iff_eq, h0, h1, or_self, not_false_eq_true]⟩
          simp only [isMk, hf, Bool.and_false]
    · have hd2 : decide ((i : Int) ≤ hi) = false := by simpa using h200
      simp only [hd2, Bool.false_eq_true, if_false]
      have hn : decide ((s.size : Int) ≤ hi) = false := by simp; omega
      rw [l1In_eq]
      simp only [Option.bind_some, isMk, hn, Bool.and_false, Bool.false_and]
theorem l2Marks_eq (s : ByteArray) (hs : s.size ≤ 1048576) (lo hi : Int) (k : Nat) (hk : 2 * s.size + 1 < k) : spec_l2Marks.f k s lo hi = some (isMk s lo hi) := by
  unfold spec_l2Marks.f
  exact l2Marks_l0 s hs lo hi s.size k 0 (by omega) (by omega) hk (by simp)
theorem areMarks_eq (s : ByteArray) (hs : s.size ≤ 1048576) (lo hi : Int) : impl_areMarks.f s lo hi = some (isMk s lo hi) := by
  unfold impl_areMarks.f
  rw [in_eq]
  simp only [Option.bind_some]
  by_cases h : (decide (lo ≤ (s.size : Int)) && decide ((s.size : Int) ≤ hi)) = true
  · rw [if_pos h]
    unfold strings_Trim.f
    rw [if_pos (by omega), if_pos (by decide), if_pos (by decide)]
    simp only [Option.bind_some]
    rw [toList_nil]
    have e : (Lib.trimS s.data.toList [46, 45]).isEmpty = s.data.toList.all dotDash := by
      rw [Bool.eq_iff_iff, List.isEmpty_iff, trimS_nil]
      have : (fun x => [46, 45].contains x) = dotDash := by
        funext x
        simp [dotDash, List.contains_eq_mem]
        rfl
      rw [this]
    show some (Lib.trimS s.data.toList [46, 45]).isEmpty = _
    rw [e]
    simp only [isMk, h, Bool.true_and]
  · rw [if_neg h]
    simp only [isMk, (Bool.not_eq_true _).mp h, Bool.false_and]
theorem in_eq' (a b c : Int) : impl_in.f a b c = some (decide (b ≤ a) && decide (a ≤ c)) := in_eq a b c
/-! a table, as both sides ask for it -/
def has (l : List ByteArray) (a : ByteArray) : Bool := l.any fun b => a.toList == b.toList
def goodT : List ByteArray → List ByteArray → Bool
  | _, [] => true
  | seen, a :: t => isMk a 1 5 && (!has seen a && goodT (seen ++ [a]) t)
def isTab (l : List ByteArray) : Bool := (decide (1 ≤ (l.length : Int)) && decide ((l.length : Int) ≤ 10)) && goodT [] l
theorem take_snoc {α : Type} (l : List α) (i : Nat) (h : i < l.length) : l.take (i + 1) = l.take i ++ [l[i]] := List.take_succ_eq_append_getElem h
theorem drop_cons {α : Type} (l : List α) (i : Nat) (h : i < l.length) : l.drop i = l[i] :: l.drop (i + 1) := List.drop_eq_getElem_cons h
theorem has_take (l : List ByteArray) (a : ByteArray) (i : Nat) (h : i < l.length) : has (l.take (i + 1)) a = (has (l.take i) a || (a.toList == l[i].toList)) := by
  unfold has
  rw [take_snoc l i h, List.any_append]; simp only [List.any_cons, List.any_nil, Bool.or_false]
/-- where a text stands in a list first, or -1 -/
def placeN (l : List ByteArray) (a : ByteArray) : Int := match l.findIdx? (fun b => a.toList == b.toList) with
  | some i => (i : Int)
  | none => -1
theorem place_hit (l : List ByteArray) (a : ByteArray) (i : Nat) (hi : i < l.length) (h1 : has (l.take i) a = false) (h2 : a.toList = l[i].toList) : placeN l a = (i : Int) := by
  unfold placeN
  have : l.findIdx? (fun b => a.toList == b.toList) = some i := by
    rw [List.findIdx?_eq_some_iff_getElem]
    refine ⟨hi, by simpa using h2, fun j hj => ?_⟩
    intro hc
    have hm : l[j] ∈ l.take i := by
      rw [List.mem_take_iff_getElem]
      exact ⟨j, by omega, rfl⟩
    have ht : has (l.take i) a = true := List.any_eq_true.2 ⟨_, hm, hc⟩
    rw [h1] at ht; cases ht
  rw [this]
theorem place_none (l : List ByteArray) (a : ByteArray) (h : has l a = false) : placeN l a = -1 := by
  unfold placeN
  have : l.findIdx? (fun b => a.toList == b.toList) = none := by
    rw [List.findIdx?_eq_none_iff]
    intro x hx
    have := List.any_eq_false.1 h x hx
    simpa using this
  rw [this]
theorem l2Place_l0 (l : List ByteArray) (hl : l.length ≤ 1048576) (a : ByteArray) (d : Nat) : ∀ (k i : Nat), i ≤ l.length → l.length - i = d → d < k → has (l.take i) a = false → spec_l2Place.l0 k l a (i : Int) = some (placeN l a) := by
  induction d with
  | zero =>
    intro k i hi hd hk ht
    obtain ⟨k, rfl⟩ := pred_of_lt hk
    simp only [spec_l2Place.l0]; rw [if_neg (by omega)]
    rw [List.take_of_length_le (by omega)] at ht
    rw [place_none l a ht]
  | succ d ih =>
    intro k i hi hd hk ht
    obtain ⟨k, rfl⟩ := pred_of_lt hk
    have hlt : i < l.length := by omega
    simp only [spec_l2Place.l0]; rw [if_pos (by omega), if_pos (by omega), rdS_get l i hlt]
    by_cases hc : l[i].toList = a.toList
    · rw [if_pos hc, place_hit l a i hlt ht hc.symm]
    · rw [if_neg hc, wr (by omega) (by omega)]
      have e : ((i : Int) + 1) = ((i + 1 : Nat) : Int) := by omega
      rw [e]
      refine ih k (i + 1) (by omega) (by omega) (by omega) ?_
      rw [has_take l a i hlt, ht, Bool.false_or, beq_eq_false_iff_ne]
      exact fun e => hc e.symm
theorem l2Place_eq (l : List ByteArray) (hl : l.length ≤ 1048576) (a : ByteArray) (k : Nat) (hk : l.length < k) : spec_l2Place.f k l a = some (placeN l a) := by
  unfold spec_l2Place.f
  exact l2Place_l0 l hl a l.length k 0 (by omega) (by omega) hk (by simp [has])
theorem sIndex_l0 (l : List ByteArray) (hl : l.length ≤ 1048576) (a : ByteArray) (d : Nat) : ∀ (k i : Nat), i ≤ l.length → l.length - i = d → d < k → has (l.take i) a = false → slices_Index_string_string.l0 k l a (l.length : Int) (i : Int) = some (placeN l a) := by
  induction d with
  | zero =>
    intro k i hi hd hk ht
    obtain ⟨k, rfl⟩ := pred_of_lt hk
    simp only [slices_Index_string_string.l0]; rw [if_neg (by omega)]
    rw [List.take_of_length_le (by omega)] at ht
    rw [place_none l a ht]
  | succ d ih =>
    intro k i hi hd hk ht
    obtain ⟨k, rfl⟩ := pred_of_lt hk
    have hlt : i < l.length := by omega
    simp only [slices_Index_string_string.l0]; rw [if_pos (by omega), if_pos (by omega), if_pos (by omega), rdS_get l i hlt]
    by_cases hc : a.toList = l[i].toList
    · rw [if_pos hc, place_hit l a i hlt ht hc]
    · rw [if_neg hc, wr (by omega) (by omega)]
      have e : ((i : Int) + 1) = ((i + 1 : Nat) : Int) := by omega
      rw [e]
      refine ih k (i + 1) (by omega) (by omega) (by omega) ?_
      rw [has_take l a i hlt, ht, Bool.false_or, beq_eq_false_iff_ne]
      exact hc
theorem sIndex_eq (l : List ByteArray) (hl : l.length ≤ 1048576) (a : ByteArray) (k : Nat) (hk : l.length < k) : slices_Index_string_string.f k l a = some (placeN l a) := by
  unfold slices_Index_string_string.f
  exact sIndex_l0 l hl a l.length k 0 (by omega) (by omega) hk (by simp [has])
theorem place_has (l : List ByteArray) (a : ByteArray) : decide (placeN l a ≥ 0) = has l a := by
  by_cases h : has l a = true
  · obtain ⟨x, hx, hb⟩ := List.any_eq_true.1 h
    unfold placeN
    cases hf : l.findIdx? (fun b => a.toList == b.toList) with
    | none =>
      have := List.findIdx?_eq_none_iff.1 hf x hx
      rw [hb] at this; cases this
    | some i => rw [h]; simp
  · rw [place_none l a ((Bool.not_eq_true _).mp h), (Bool.not_eq_true _).mp h]; decide
theorem sContains_eq (l : List ByteArray) (hl : l.length ≤ 1048576) (a : ByteArray) (k : Nat) (hk : l.length < k) : slices_Contains_string_string.f k l a = some (has l a) := by
  unfold slices_Contains_string_string.f
  rw [sIndex_eq l hl a k hk]
  simp only [Option.bind_some]
  rw [place_has]
theorem place_self (l : List ByteArray) (i : Nat) (hi : i < l.length) : (placeN l l[i] = (i : Int)) ↔ has (l.take i) l[i] = false := by
  constructor
  · intro h
    by_cases hc : has (l.take i) l[i] = true
    · exfalso
      obtain ⟨x, hx, hb⟩ := List.any_eq_true.1 hc
      obtain ⟨j, hj, rfl⟩ := List.getElem_of_mem hx
      rw [List.length_take] at hj
      unfold placeN at h
      cases hf : l.findIdx? (fun b => l[i].toList == b.toList) with
      | none => rw [hf] at h; simp at h
      | some m =>
        rw [hf] at h
        have hm : m = i := by
          have h' : (m : Int) = (i : Int) := h
          omega
        subst hm
        have := (List.findIdx?_eq_some_iff_getElem.1 hf).2.2 j (by omega)
        rw [List.getElem_take] at hb
        exact this hb
    · exact (Bool.not_eq_true _).mp hc
  · intro h
    exact place_hit l l[i] i hi h rfl
theorem l2Table_l0 (l : List ByteArray) (hl : l.length ≤ 1048576) (hs : ∀ s ∈ l, s.size ≤ 1048576) (M : Nat) (hM : l.length + 2097160 ≤ M) (d : Nat) : ∀ (k i : Nat), i ≤ l.length → l.length - i = d → M + d < k → spec_l2Table.l0 k (i : Int) l = some (goodT (l.take i) (l.drop i)) := by
  induction d with
  | zero =>
    intro k i hi hd hk
    obtain ⟨k, rfl⟩ := pred_of_lt hk
    simp only [spec_l2Table.l0]; rw [if_neg (by omega), List.drop_eq_nil_of_le (by omega)]
    simp [goodT]
  | succ d ih =>
    intro k i hi hd hk
    obtain ⟨k, rfl⟩ := pred_of_lt hk
    have hlt : i < l.length := by omega
    have hz := hs _ (List.getElem_mem hlt)
    rw [drop_cons l i hlt]
    simp only [spec_l2Table.l0]; rw [if_pos (by omega), if_pos (by omega), rdS_get l i hlt, l2Marks_eq _ hz 1 5 k (by omega), l2Place_eq l hl _ k (by omega)]
    simp only [Option.bind_some, goodT]
    by_cases h1 : isMk l[i] 1 5 = true
    · rw [if_pos h1, h1, Bool.true_and]
      by_cases h2 : placeN l l[i] = (i : Int)
      · rw [if_pos h2, (place_self l i hlt).1 h2, wr (by omega) (by omega)]
        have e : ((i : Int) + 1) = ((i + 1 : Nat) : Int) := by omega
        rw [e, ih k (i + 1) (by omega) (by omega) (by omega), take_snoc l i hlt]
        simp
      · rw [if_neg h2]
        have : has (l.take i) l[i] = true := by
          by_cases hc : has (l.take i) l[i] = true
          · exact hc
          · exact absurd ((place_self l i hlt).2 ((Bool.not_eq_true _).mp hc)) h2
        rw [this]; simp
    · rw [if_neg h1, (Bool.not_eq_true _).mp h1]; simp
theorem l2Table_eq (l : List ByteArray) (hl : l.length ≤ 1048576) (hs : ∀ s ∈ l, s.size ≤ 1048576) (k : Nat) (hk : 4194400 ≤ k) : spec_l2Table.f k l = some (isTab l) := by
  unfold spec_l2Table.f
  rw [l1In_eq]
  simp only [Option.bind_some]
  by_cases h : (decide (1 ≤ (l.length : Int)) && decide ((l.length : Int) ≤ 10)) = true
  · rw [if_pos h]
    have h10 : l.length ≤ 10 := by simp only [Bool.and_eq_true, decide_eq_true_eq] at h; omega
    have := l2Table_l0 l hl hs (l.length + 2097160) (by omega) l.length k 0 (by omega) (by omega) (by omega)
    rw [List.take_zero, List.drop_zero] at this
    simp only [isTab, h, Bool.true_and]
    exact this
  · rw [if_neg h]; simp only [isTab, (Bool.not_eq_true _).mp h, Bool.false_and]
theorem isLetterMarks_eq (s : ByteArray) (hs : s.size ≤ 1048576) : impl_isLetterMarks.f s = some (isMk s 1 5) := by
  unfold impl_isLetterMarks.f
  rw [areMarks_eq s hs]; rfl
theorem isTable_l0 (l : List ByteArray) (hl : l.length ≤ 1048576) (hs : ∀ s ∈ l, s.size ≤ 1048576) (d : Nat) : ∀ (k i : Nat), i ≤ l.length → l.length - i = d → l.length + d < k →
    impl_isTable.l0 k l (l.length : Int) (i : Int) l = some (goodT (l.take i) (l.drop i) && (decide (1 ≤ (l.length : Int)) && decide ((l.length : Int) ≤ 10))) := by
  induction d with
  | zero =>
    intro k i hi hd hk
    obtain ⟨k, rfl⟩ := pred_of_lt hk
    simp only [impl_isTable.l0]; rw [if_neg (by omega), List.drop_eq_nil_of_le (by omega), in_eq]
    simp [goodT]
  | succ d ih =>
    intro k i hi hd hk
    obtain ⟨k, rfl⟩ := pred_of_lt hk
    have hlt : i < l.length := by omega
    have hz := hs _ (List.getElem_mem hlt)
    have c1 : (i : Int) ≤ (l.length : Int) := by omega
    rw [drop_cons l i hlt]
    simp only [impl_isTable.l0]; rw [if_pos (by omega), if_pos (by omega), if_pos (by omega), rdS_get l i hlt, isLetterMarks_eq _ hz]
    simp only [Option.bind_some, goodT]
    by_cases h1 : isMk l[i] 1 5 = true
    · rw [if_pos h1, h1, Bool.true_and, if_pos c1, Int.toNat_natCast, sContains_eq _ (by rw [List.length_take]; omega) _ k (by rw [List.length_take]; omega)]
      simp only [Option.bind_some]
      by_cases h2 : has (l.take i) l[i] = true
      · rw [if_pos h2, h2]; simp
      · rw [if_neg h2, (Bool.not_eq_true _).mp h2, wr (by omega) (by omega)]
        have e : ((i : Int) + 1) = ((i + 1 : Nat) : Int) := by omega
        rw [e, ih k (i + 1) (by omega) (by omega) (by omega), take_snoc l i hlt]
        simp
    · rw [if_neg h1, (Bool.not_eq_true _).mp h1]; simp
theorem isTable_eq (l : List ByteArray) (hl : l.length ≤ 1048576) (hs : ∀ s ∈ l, s.size ≤ 1048576) (k : Nat) (hk : 4194400 ≤ k) : impl_isTable.f k l = some (isTab l) := by
  unfold impl_isTable.f
  have := isTable_l0 l hl hs l.length k 0 (by omega) (by omega) (by omega)
  rw [List.take_zero, List.drop_zero] at this
  rw [show isTab l = (goodT [] l && (decide (1 ≤ (l.length : Int)) && decide ((l.length : Int) ≤ 10))) from Bool.and_comm _ _]
  exact this
/-! a message, as both sides ask for it -/
def mAt (s : ByteArray) (n : Nat) (i : Nat) : Bool := if bt s (i : Int) = 32 then (decide (i ≠ 0) && (decide (i ≠ s.size - 1) && decide (bt s ((i : Int) - 1) ≠ 32))) else (decide (97 ≤ bt s (i : Int)) && decide (bt s (i : Int) ≤ 96 + (n : Int)))
def mAll (s : ByteArray) (n : Nat) : Bool := (List.range s.size).all (mAt s n)
theorem mAll_bad (s : ByteArray) (n i : Nat) (hi : i < s.size) (h : mAt s n i = false) : mAll s n = false := by
  unfold mAll
  rw [List.all_eq_false]
  exact ⟨i, List.mem_range.2 hi, by rw [h]; decide⟩
theorem message_l0 (s : ByteArray) (hs : s.size ≤ 1048576) (l : List ByteArray) (hl : l.length ≤ 1048576) (d : Nat) : ∀ (k i : Nat), i ≤ s.size → s.size - i = d → d < k → (List.range i).all (mAt s l.length) = true →
    spec_l2Message.l0 k s (i : Int) l = some (mAll s l.length) ∧ impl_isMessage.l0 k s (s.size : Int) (i : Int) l = some (mAll s l.length && decide ((s.size : Int) ≤ 12)) := by
  induction d with
  | zero =>
    intro k i hi hd hk ht
    obtain ⟨k, rfl⟩ := pred_of_lt hk
    have : mAll s l.length = true := by unfold mAll; rw [show s.size = i by omega]; exact ht
    simp only [spec_l2Message.l0, impl_isMessage.l0]
    rw [if_neg (by omega), if_neg (by omega), this]
    simp
  | succ d ih =>
    intro k i hi hd hk ht
    obtain ⟨k, rfl⟩ := pred_of_lt hk
    have hb := bt_range s (i : Int)
    have c1 : (i : Int) < (s.size : Int) := by omega
    have c2 : (0 : Int) ≤ (i : Int) := by omega
    have e1 : wrap64 ((i : Int) + 1) = ((i + 1 : Nat) : Int) := by rw [wr (by omega) (by omega)]; omega
    have e2 : wrap64 ((i : Int) - 1) = (i : Int) - 1 := by rw [wr (by omega) (by omega)]
    have e3 : wrap64 ((s.size : Int) - 1) = (s.size : Int) - 1 := by rw [wr (by omega) (by omega)]
    have e4 : wrap64 (wrap64 (bt s (i : Int)) - 97) = bt s (i : Int) - 97 := by rw [wr (i := bt s (i : Int)) (by omega) (by omega), wr (by omega) (by omega)]
    have e5 : wrap64 ((l.length : Int) - 1) = (l.length : Int) - 1 := by rw [wr (by omega) (by omega)]
    have good : mAt s l.length i = true → spec_l2Message.l0 k s ((i + 1 : Nat) : Int) l = some (mAll s l.length) ∧ impl_isMessage.l0 k s (s.size : Int) ((i + 1 : Nat) : Int) l = some (mAll s l.length && decide ((s.size : Int) ≤ 12)) := fun hm =>
      ih k (i + 1) (by omega) (by omega) (by omega) (by rw [List.range_succ, List.all_append, ht]; simp only [List.all_cons, List.all_nil, hm, Bool.and_true])
    have bad : mAt s l.length i = false → some false = some (mAll s l.length) ∧ some false = some (mAll s l.length && decide ((s.size : Int) ≤ 12)) := fun hm => by
      rw [mAll_bad s l.length i (by omega) hm]; simp
    simp only [spec_l2Message.l0, impl_isMessage.l0, c1, c2, if_true, e1, e2, e3, e4, e5, l1In_eq, in_eq, Option.bind_some]
    by_cases h32 : bt s (i : Int) = 32
    · simp only [h32, if_true]
      by_cases h0 : (i : Int) = 0
      · rw [if_pos h0, if_pos h0]
        exact bad (by unfold mAt; rw [if_pos h32]; simp; omega)
      · rw [if_neg h0, if_neg h0]
        by_cases hz : (i : Int) = (s.size : Int) - 1
        · rw [if_pos hz, if_pos hz]
          exact bad (by unfold mAt; rw [if_pos h32]; simp; omega)
        · rw [if_neg hz, if_neg hz]
          simp only [show (0 : Int) ≤ (i : Int) - 1 by omega, show (i : Int) - 1 < (s.size : Int) by omega, if_true]
          by_cases hp : bt s ((i : Int) - 1) = 32
          · rw [if_pos hp, if_pos hp]
            exact bad (by unfold mAt; rw [if_pos h32]; simp [hp])
          · rw [if_neg hp, if_neg hp]
            exact good (by unfold mAt; rw [if_pos h32]; simp [hp]; omega)
    · simp only [h32, if_false]
      by_cases hr : (decide (0 ≤ bt s (i : Int) - 97) && decide (bt s (i : Int) - 97 ≤ (l.length : Int) - 1)) = true
      · rw [if_pos hr, if_pos hr]
        simp only [Bool.and_eq_true, decide_eq_true_eq] at hr
        exact good (by unfold mAt; rw [if_neg h32]; simp only [Bool.and_eq_true, decide_eq_true_eq]; omega)
      · rw [if_neg hr, if_neg hr]
        simp only [Bool.and_eq_true, decide_eq_true_eq] at hr
        exact bad (by
          unfold mAt; rw [if_neg h32, Bool.eq_false_iff]
          simp only [ne_eq, Bool.and_eq_true, decide_eq_true_eq]; omega)
def isMsg (l : List ByteArray) (s : ByteArray) : Bool := decide (s.size ≤ 12) && mAll s l.length
theorem l2Message_eq (l : List ByteArray) (hl : l.length ≤ 1048576) (s : ByteArray) (hs : s.size ≤ 1048576) (k : Nat) (hk : s.size < k) : spec_l2Message.f k l s = some (isMsg l s) := by
  unfold spec_l2Message.f isMsg
  by_cases h : (s.size : Int) > 12
  · rw [if_pos h]; simp [show ¬ s.size ≤ 12 by omega]
  · rw [if_neg h]
    have := (message_l0 s hs l hl s.size k 0 (by omega) (by omega) hk (by simp)).1
    simp only [Int.natCast_zero] at this
    rw [this]; simp [show s.size ≤ 12 by omega]
theorem isMessage_eq (l : List ByteArray) (hl : l.length ≤ 1048576) (s : ByteArray) (hs : s.size ≤ 1048576) (k : Nat) (hk : s.size < k) : impl_isMessage.f k l s = some (isMsg l s) := by
  unfold impl_isMessage.f isMsg
  have := (message_l0 s hs l hl s.size k 0 (by omega) (by omega) hk (by simp)).2
  simp only [Int.natCast_zero] at this
  rw [this, Bool.and_comm]
  have e : decide ((s.size : Int) ≤ 12) = decide (s.size ≤ 12) := by rw [decide_eq_decide]; omega
  rw [e]
/-- no two letters of a table that stand at one place are equally long -/
theorem goodT_mem : ∀ (l seen : List ByteArray), goodT seen l = true → (∀ c ∈ l, 1 ≤ c.size ∧ c.size ≤ 5 ∧ ∀ b ∈ seen, c ≠ b) ∧ l.Nodup
  | [], _, _ => ⟨fun c h => absurd h (by simp), List.nodup_nil⟩
  | a :: t, seen, h => by
    simp only [goodT, Bool.and_eq_true, Bool.not_eq_true'] at h
    obtain ⟨h1, h2, h3⟩ := h
    obtain ⟨i1, i2⟩ := goodT_mem t (seen ++ [a]) h3
    refine ⟨fun c hc => ?_, ?_⟩
    · rcases List.mem_cons.1 hc with rfl | hc
      · simp only [isMk, Bool.and_eq_true, decide_eq_true_eq] at h1
        refine ⟨by omega, by omega, fun b hb e => ?_⟩
        have := List.any_eq_false.1 h2 b hb
        rw [e] at this; simp at this
      · obtain ⟨a1, a2, a3⟩ := i1 c hc
        exact ⟨a1, a2, fun b hb => a3 b (by simp [hb])⟩
    · rw [List.nodup_cons]
      exact ⟨fun hm => (i1 a hm).2.2 a (by simp) rfl, i2⟩
theorem isTab_mem (l : List ByteArray) (h : isTab l = true) : (∀ c ∈ l, 1 ≤ c.size ∧ c.size ≤ 5) ∧ l.Nodup ∧ 1 ≤ l.length ∧ l.length ≤ 10 := by
  simp only [isTab, Bool.and_eq_true, decide_eq_true_eq] at h
  obtain ⟨h1, h2⟩ := goodT_mem l [] h.2
  exact ⟨fun c hc => ⟨(h1 c hc).1, (h1 c hc).2.1⟩, h2, by omega, by omega⟩
/-! letters of a table, and their marks -/
def letOk (n : Nat) (c : UInt8) : Bool := decide (97 ≤ c.toNat) && decide (c.toNat < 97 + n)
def mk1 (T : List ByteArray) (c : UInt8) : ByteArray := T.getD (c.toNat - 97) ByteArray.empty
def bareB (T : List ByteArray) : List UInt8 → ByteArray → ByteArray
  | [], acc => acc
  | c :: L, acc => bareB T L (acc ++ mk1 T c)
def blen (T : List ByteArray) : List UInt8 → Nat
  | [] => 0
  | c :: L => (mk1 T c).size + blen T L
theorem bareB_size (T : List ByteArray) : ∀ (L : List UInt8) (acc : ByteArray), (bareB T L acc).size = acc.size + blen T L
  | [], acc => rfl
  | c :: L, acc => by simp only [bareB, blen]; rw [bareB_size T L, ByteArray.size_append]; omega
theorem mk1_size (T : List ByteArray) (hT : ∀ c ∈ T, c.size ≤ 5) (c : UInt8) : (mk1 T c).size ≤ 5 := by
  unfold mk1
  rw [List.getD_eq_getElem?_getD]
  by_cases h : c.toNat - 97 < T.length
  · rw [List.getElem?_eq_getElem h]; exact hT _ (List.getElem_mem h)
  · rw [List.getElem?_eq_none (by omega)]; exact Nat.zero_le 5
theorem blen_le (T : List ByteArray) (hT : ∀ c ∈ T, c.size ≤ 5) : ∀ L : List UInt8, blen T L ≤ 5 * L.length
  | [] => Nat.le_refl _
  | c :: L => by
    have := mk1_size T hT c
    have := blen_le T hT L
    simp only [blen, List.length_cons]; omega
theorem byte_lt (c : UInt8) : c.toNat < 256 := c.toNat_lt
theorem let_num (c : UInt8) : wrap64 (wrap64 ((c.toNat : Nat) : Int) - 97) = ((c.toNat : Nat) : Int) - 97 := by
  have := byte_lt c
  rw [wr (i := ((c.toNat : Nat) : Int)) (by omega) (by omega), wr (by omega) (by omega)]
theorem rd_mk1 (T : List ByteArray) (c : UInt8) (h : 97 ≤ c.toNat) : rdOf ByteArray.empty T (((c.toNat : Nat) : Int) - 97) = mk1 T c := by
  unfold mk1 rdOf
  rw [show (((c.toNat : Nat) : Int) - 97).toNat = c.toNat - 97 by omega]
theorem letOk_le {n : Nat} {c : UInt8} (h : letOk n c = true) : 97 ≤ c.toNat ∧ c.toNat < 97 + n := by
  simpa [letOk] using h
/-! a text as a list of bytes, and as a list of numbers -/
def txt (l : List UInt8) : ByteArray := ⟨l.toArray⟩
theorem txt_data (l : List UInt8) : (txt l).data.toList = l := rfl
theorem txt_size (l : List UInt8) : (txt l).size = l.length := by rw [← size_data, txt_data]
theorem txt_of (s : ByteArray) : txt s.data.toList = s := rfl
theorem txt_app (l m : List UInt8) : txt l ++ txt m = txt (l ++ m) := by
  apply ByteArray.ext
  apply Array.toList_inj.1
  rw [ByteArray.data_append, Array.toList_append]
  rfl
/-! texts joined by one byte -/
/-- the texts joined -/
def joinB (c : UInt8) (l : List ByteArray) : ByteArray := txt (Lib.join (l.map (·.data.toList)) [c])
theorem joinL_snoc (c : List UInt8) (l : List (List UInt8)) (x : List UInt8) (h : l ≠ []) : Lib.join (l ++ [x]) c = Lib.join l c ++ c ++ x := by
  unfold Lib.join
  induction l with
  | nil => exact absurd rfl h
  | cons a l ih =>
    cases l with
    | nil => simp [List.intercalate, List.intersperse]
    | cons b l =>
      have := ih (by simp)
      simp only [List.intercalate, List.cons_append, List.intersperse, List.flatten_cons] at this ⊢
      rw [this]; simp
theorem joinB_one (c : UInt8) (x : ByteArray) : joinB c [x] = x := by
  unfold joinB
  rw [List.map_cons, List.map_nil, Lib.join_one, txt_of]
theorem joinB_snoc (c : UInt8) (l : List ByteArray) (x : ByteArray) (h : l ≠ []) : joinB c (l ++ [x]) = (joinB c l ++ ⟨#[c]⟩) ++ x := by
  unfold joinB
  rw [List.map_append, List.map_cons, List.map_nil, joinL_snoc _ _ _ (by simpa using h)]
  rw [← txt_app, ← txt_app, txt_of]; rfl
/-- how much the joined texts take -/
def sumZ (l : List ByteArray) : Int := (l.map fun s => (s.size : Int)).sum
theorem sumZ_snoc (l : List ByteArray) (x : ByteArray) : sumZ (l ++ [x]) = sumZ l + (x.size : Int) := by simp [sumZ]
theorem sumZ_nonneg (l : List ByteArray) : 0 ≤ sumZ l := by
  induction l with
  | nil => simp [sumZ]
  | cons a l ih => simp only [sumZ, List.map_cons, List.sum_cons] at ih ⊢; omega
theorem joinL_len (c : UInt8) : ∀ l : List (List UInt8), l ≠ [] → (Lib.join l [c]).length + 1 = (l.map fun s => s.length + 1).sum
  | [], h => absurd rfl h
  | [a], _ => by rw [Lib.join_one]; simp
  | a :: b :: l, _ => by
    have ih := joinL_len c (b :: l) (by simp)
    have e : Lib.join (a :: b :: l) [c] = a ++ ([c] ++ Lib.join (b :: l) [c]) := by
      unfold Lib.join
      simp [List.intercalate, List.intersperse]
    rw [e, List.length_append, List.length_append, List.map_cons, List.sum_cons, ← ih, List.length_singleton]
    omega
theorem sums (l : List ByteArray) : ((((l.map (·.data.toList)).map fun s => s.length + 1).sum : Nat) : Int) = sumZ l + (l.length : Int) := by
  induction l with
  | nil => rfl
  | cons a l ih =>
    have := size_data a
    simp only [sumZ, List.map_cons, List.sum_cons, List.length_cons] at ih ⊢
    omega
theorem joinB_size (c : UInt8) (l : List ByteArray) (h : l ≠ []) : ((joinB c l).size : Int) = sumZ l + ((l.length : Int) - 1) := by
  have h1 := joinL_len c (l.map (·.data.toList)) (by simpa using h)
  have h2 := sums l
  have h3 : (joinB c l).size = (Lib.join (l.map (·.data.toList)) [c]).length := txt_size _
  omega
theorem sumZ_append (l m : List ByteArray) : sumZ (l ++ m) = sumZ l + sumZ m := by simp [sumZ]
theorem sumZ_take (l : List ByteArray) (i : Nat) : sumZ (l.take i) ≤ sumZ l := by
  have h := sumZ_append (l.take i) (l.drop i)
  rw [List.take_append_drop] at h
  have := sumZ_nonneg (l.drop i)
  omega
theorem sumZ_le (l : List ByteArray) (h : ∀ s ∈ l, s.size ≤ 1048576) : sumZ l ≤ 1048576 * (l.length : Int) := by
  induction l with
  | nil => simp [sumZ]
  | cons a l ih =>
    have h1 := ih fun s hs => h s (List.mem_cons_of_mem _ hs)
    have h2 := h a List.mem_cons_self
    simp only [sumZ, List.map_cons, List.sum_cons, List.length_cons] at h1 ⊢
    omega
theorem sumZ_nil : sumZ [] = 0 := rfl
attribute [local irreducible] sumZ
theorem take_snocB (l : List ByteArray) (i : Nat) (h : i < l.length) : l.take (i + 1) = l.take i ++ [l[i]] := List.take_succ_eq_append_getElem h
theorem join_full (c : UInt8) (l : List ByteArray) (hl : l.length ≤ 1048576) (h : l ≠ []) (hz : sumZ l + ((l.length : Int) - 1) ≤ 100000000000) : strings_Join.f l ⟨#[c]⟩ = some (joinB c l) := by
  have hs := joinB_size c l h
  have hsz : (joinB c l).size = (Lib.join (l.map (·.data.toList)) [c]).length := txt_size _
  unfold strings_Join.f
  rw [if_pos (by omega)]
  show (if (Lib.join (l.map (·.data.toList)) [c]).length ≤ 140737488355328 then some (joinB c l) else none) = _
  rw [if_pos (by omega)]
/-! a message's signal, as both sides write it -/
def okR (n : Nat) : Bool → List UInt8 → Bool
  | p, [] => p
  | p, c :: l => if c = 32 then p && okR n false l else letOk n c && okR n true l
def outS (T : List ByteArray) : Bool → List UInt8 → ByteArray → ByteArray
  | _, [], acc => acc
  | p, c :: l, acc => if c = 32 then outS T false l (acc ++ (⟨#[47]⟩ : ByteArray)) else outS T true l ((if p = true then acc ++ (⟨#[32]⟩ : ByteArray) else acc) ++ mk1 T c)
theorem bt_c (s : ByteArray) (i : Nat) (h : i < s.size) (c : UInt8) (hc : s.data.toList[i]'(by rw [size_data]; exact h) = c) : bt s (i : Int) = ((c.toNat : Nat) : Int) := by rw [bt_nat s i h, hc]
theorem c32 (c : UInt8) : (((c.toNat : Nat) : Int) = 32) ↔ c = 32 := byte_num c 32 32 rfl
/-- what stands ahead of a place: is it a letter -/
def prevL (s : ByteArray) (i : Nat) : Bool := decide (i ≠ 0) && decide (bt s ((i : Int) - 1) ≠ 32)
theorem okR_at (s : ByteArray) (n : Nat) (hall : mAll s n = true) (hpos : 0 < s.size) (d : Nat) : ∀ (i : Nat), i ≤ s.size → s.size - i = d → okR n (prevL s i) (s.data.toList.drop i) = true := by
  have hsz := size_data s
  have hm : ∀ i, i < s.size → mAt s n i = true := fun i hi => List.all_eq_true.1 hall i (List.mem_range.2 hi)
  induction d with
  | zero =>
    intro i hi hd
    rw [List.drop_eq_nil_of_le (by omega)]
    show prevL s i = true
    have h := hm (i - 1) (by omega)
    have e : ((i - 1 : Nat) : Int) = (i : Int) - 1 := by omega
    unfold mAt at h
    rw [e] at h
    unfold prevL
    by_cases h32 : bt s ((i : Int) - 1) = 32
    · rw [if_pos h32] at h
      simp only [Bool.and_eq_true, decide_eq_true_eq] at h
      omega
    · simp [h32]; omega
  | succ d ih =>
    intro i hi hd
    have hlt : i < s.data.toList.length := by omega
    have h := hm i (by omega)
    have hn := ih (i + 1) (by omega) (by omega)
    rw [List.drop_eq_getElem_cons hlt]
    obtain ⟨c, hc⟩ : ∃ c, s.data.toList[i] = c := ⟨_, rfl⟩
    have hb := bt_c s i (by omega) c hc
    have hp1 : prevL s (i + 1) = decide (bt s (i : Int) ≠ 32) := by
      unfold prevL
      rw [show ((i + 1 : Nat) : Int) - 1 = (i : Int) by omega]
      simp
    rw [hc]
    unfold mAt at h
    rw [hp1] at hn
    simp only [okR]
    by_cases h32 : bt s (i : Int) = 32
    · have hc32 : c = 32 := by rw [hb] at h32; exact (c32 c).1 h32
      rw [if_pos h32] at h
      rw [if_pos hc32]
      simp only [h32, ne_eq, not_true_eq_false, decide_false] at hn
      simp only [Bool.and_eq_true, decide_eq_true_eq] at h
      rw [hn, Bool.and_true]
      unfold prevL
      simp only [Bool.and_eq_true, decide_eq_true_eq]
      exact ⟨h.1, h.2.2⟩
    · have hc32 : ¬ c = 32 := fun e => h32 (by rw [hb]; exact (c32 c).2 e)
      rw [if_neg h32] at h
      rw [if_neg hc32]
      simp only [h32, ne_eq, not_false_eq_true, decide_true] at hn
      rw [hn, Bool.and_true]
      simp only [Bool.and_eq_true, decide_eq_true_eq, hb] at h
      simp only [letOk, Bool.and_eq_true, decide_eq_true_eq]
      omega
def encB (T : List ByteArray) (m : ByteArray) : ByteArray := outS T false m.data.toList (⟨#[]⟩ : ByteArray)
/-! the program's words -/
def Jw (T : List ByteArray) (w : List UInt8) : ByteArray := joinB 32 (w.map (mk1 T))
theorem joinB_nil (c : UInt8) : joinB c [] = (⟨#[]⟩ : ByteArray) := by
  unfold joinB
  rw [List.map_nil, Lib.join_nil]; rfl
theorem joinB_grow (c : UInt8) (done : List ByteArray) (x y : ByteArray) : joinB c (done ++ [x ++ y]) = joinB c (done ++ [x]) ++ y := by
  cases done with
  | nil => rw [List.nil_append, List.nil_append, joinB_one, joinB_one]
  | cons a l => rw [joinB_snoc c _ _ (by simp), joinB_snoc c _ _ (by simp), ← ByteArray.append_assoc]
theorem notSp {n : Nat} {c : UInt8} (h : letOk n c = true) (hn : n ≤ 10) : Lib.isSp c = false ∧ c ≠ 32 := by
  have hc := letOk_le h
  have key : ∀ d : UInt8, d.toNat < 97 → c ≠ d := fun d hd e => by rw [e] at hc; omega
  have h32 := key 32 (by decide)
  have h9 := key 9 (by decide)
  have h10 := key 10 (by decide)
  have h11 := key 11 (by decide)
  have h12 := key 12 (by decide)
  have h13 := key 13 (by decide)
  refine ⟨?_, h32⟩
  unfold Lib.isSp
  simp [h9, h10, h11, h12, h13, h32]
theorem words_out (T : List ByteArray) (n : Nat) (hn : n ≤ 10) (l : List UInt8) :
    (∀ (cur : List UInt8) (done : List ByteArray), cur ≠ [] → okR n true l = true → joinB 47 (done ++ (Lib.fieldsGo cur l).map (Jw T)) = outS T true l (joinB 47 (done ++ [Jw T cur]))) ∧
    (∀ (done : List ByteArray), done ≠ [] → okR n false l = true → joinB 47 (done ++ (Lib.fieldsGo [] l).map (Jw T)) = outS T false l (joinB 47 done ++ (⟨#[47]⟩ : ByteArray))) := by
  induction l with
  | nil =>
    refine ⟨fun cur done hc _ => ?_, fun done hd h => by cases h⟩
    cases cur with
    | nil => exact absurd rfl hc
    | cons a t => rfl
  | cons c l ih =>
    obtain ⟨iA, iB⟩ := ih
    refine ⟨fun cur done hc h => ?_, fun done hd h => ?_⟩
    · simp only [okR] at h
      by_cases h32 : c = 32
      · subst h32
        rw [if_pos rfl, Bool.true_and] at h
        have e : Lib.fieldsGo cur (32 :: l) = cur :: Lib.fieldsGo [] l := Lib.fieldsGo_end cur 32 l (by decide) hc
        have := iB (done ++ [Jw T cur]) (by simp) h
        rw [e, List.map_cons, ← List.singleton_append, ← List.append_assoc, this]
        simp only [outS, if_true]
      · rw [if_neg h32, Bool.and_eq_true] at h
        have hs := (notSp h.1 hn).1
        have e : Lib.fieldsGo cur (c :: l) = Lib.fieldsGo (cur ++ [c]) l := Lib.fieldsGo_more cur c l hs
        have := iA (cur ++ [c]) done (by simp) h.2
        have ej : Jw T (cur ++ [c]) = Jw T cur ++ ((⟨#[32]⟩ : ByteArray) ++ mk1 T c) := by
          unfold Jw
          rw [List.map_append, List.map_cons, List.map_nil, joinB_snoc 32 _ _ (by simpa using hc), ByteArray.append_assoc]
        rw [e, this, ej, joinB_grow, ← ByteArray.append_assoc]
        simp only [outS, h32, if_false, if_true]
    · simp only [okR] at h
      by_cases h32 : c = 32
      · rw [if_pos h32] at h; cases h
      · rw [if_neg h32, Bool.and_eq_true] at h
        have hs := (notSp h.1 hn).1
        have e : Lib.fieldsGo [] (c :: l) = Lib.fieldsGo [c] l := Lib.fieldsGo_more [] c l hs
        have := iA [c] done (by simp) h.2
        have ej : Jw T [c] = mk1 T c := joinB_one 32 _
        rw [e, this, ej, joinB_snoc 47 done _ hd]
        simp only [outS, h32, if_false]
        rfl
theorem words_enc (T : List ByteArray) (n : Nat) (hn : n ≤ 10) (l : List UInt8) (h : l = [] ∨ okR n false l = true) : joinB 47 ((Lib.fields l).map (Jw T)) = outS T false l (⟨#[]⟩ : ByteArray) := by
  rcases h with rfl | h
  · exact joinB_nil 47
  · cases l with
    | nil => cases h
    | cons c l =>
      simp only [okR] at h
      by_cases h32 : c = 32
      · rw [if_pos h32] at h; cases h
      · rw [if_neg h32, Bool.and_eq_true] at h
        have hs := (notSp h.1 hn).1
        have e : Lib.fields (c :: l) = Lib.fieldsGo [c] l := Lib.fieldsGo_more [] c l hs
        have := (words_out T n hn l).1 [c] [] (by simp) h.2
        have ej : Jw T [c] = mk1 T c := joinB_one 32 _
        rw [List.nil_append, List.nil_append, joinB_one, ej] at this
        rw [e, this]
        simp only [outS, h32, if_false, Bool.false_eq_true]
        congr 1
/-- every word is of letters -/
theorem words_ok (n : Nat) (l : List UInt8) : ∀ (p : Bool) (cur : List UInt8), okR n p l = true → cur.all (letOk n) = true → ∀ w ∈ Lib.fieldsGo cur l, w.all (letOk n) = true ∧ w.length ≤ cur.length + l.length := by
  induction l with
  | nil =>
    intro p cur _ hc w hw
    simp only [Lib.fieldsGo] at hw
    split at hw
    · cases hw
    · rw [List.mem_singleton.1 hw]; exact ⟨hc, by simp⟩
  | cons c l ih =>
    intro p cur h hc w hw
    simp only [okR] at h
    by_cases h32 : c = 32
    · subst h32
      rw [if_pos rfl, Bool.and_eq_true] at h
      have hsp : Lib.isSp 32 = true := by decide
      simp only [Lib.fieldsGo, hsp, if_true] at hw
      split at hw
      · have := ih false [] h.2 rfl w hw
        exact ⟨this.1, by simp at this ⊢; omega⟩
      · rcases List.mem_cons.1 hw with rfl | hw
        · exact ⟨hc, by simp⟩
        · have := ih false [] h.2 rfl w hw
          exact ⟨this.1, by simp at this ⊢; omega⟩
    · rw [if_neg h32, Bool.and_eq_true] at h
      by_cases hsp : Lib.isSp c = true
      · simp only [Lib.fieldsGo, hsp, if_true] at hw
        split at hw
        · rename_i he
          have := ih true [] h.2 rfl w hw
          exact ⟨this.1, by simp at this ⊢; omega⟩
        · rcases List.mem_cons.1 hw with rfl | hw
          · exact ⟨hc, by simp⟩
          · have := ih true [] h.2 rfl w hw
            exact ⟨this.1, by simp at this ⊢; omega⟩
      · simp only [Lib.fieldsGo, (Bool.not_eq_true _).mp hsp, Bool.false_eq_true, if_false] at hw
        have := ih true (cur ++ [c]) h.2 (by rw [List.all_append, hc]; simp [h.1]) w hw
        exact ⟨this.1, by simp at this ⊢; omega⟩
theorem join_any (c : UInt8) (l : List ByteArray) (hl : l.length ≤ 1048576) (hz : sumZ l + ((l.length : Int) - 1) ≤ 100000000000) : strings_Join.f l ⟨#[c]⟩ = some (joinB c l) := by
  by_cases h : l = []
  · subst h
    unfold strings_Join.f
    rw [if_pos (by simp)]
    show (if (Lib.join [] [c]).length ≤ 140737488355328 then some (joinB c []) else none) = _
    rw [if_pos (by rw [Lib.join_nil]; simp)]
  · exact join_full c l hl h hz
theorem sumZ_small (l : List ByteArray) (b : Int) (h0 : 0 ≤ b) (h : ∀ s ∈ l, (s.size : Int) ≤ b) : sumZ l ≤ b * (l.length : Int) := by
  induction l with
  | nil => rw [sumZ_nil]; simp
  | cons a l ih =>
    have h1 := ih fun s hs => h s (List.mem_cons_of_mem _ hs)
    have h2 := h a List.mem_cons_self
    have e : sumZ (a :: l) = (a.size : Int) + sumZ l := by
      have := sumZ_append [a] l
      have e1 := sumZ_snoc [] a
      rw [List.nil_append, sumZ_nil] at e1
      rw [List.singleton_append] at this
      omega
    rw [e, List.length_cons, Int.natCast_add, Int.mul_add]
    simp only [Int.natCast_one, Int.mul_one]
    omega
theorem iEnc_l1 (T : List ByteArray) (hT : T.length ≤ 10) (hT5 : ∀ c ∈ T, c.size ≤ 5) (W X : List ByteArray) (hW : W.length ≤ 100) (p : Nat) (hX : X.length ≤ 100) (hp : p ≤ 100) (w : ByteArray) (hw : w.size ≤ 100) (hok : w.data.toList.all (letOk T.length) = true) (q d : Nat) : ∀ (k j : Nat), k = q + d + 1 → j ≤ w.size → w.size - j = d →
    impl_encode.l1 k W w ((w.data.toList.take j).map (mk1 T)) X (X.length : Int) (p : Int) (w.size : Int) (j : Int) T = impl_encode.l0 q (W ++ [Jw T w.data.toList]) X (X.length : Int) ((p + 1 : Nat) : Int) T := by
  have hsz := size_data w
  have ep : wrap64 ((p : Int) + 1) = ((p + 1 : Nat) : Int) := by rw [wr (by omega) (by omega)]; omega
  induction d with
  | zero =>
    intro k j hk hj hd
    subst hk
    have hjn : ¬ (j : Int) < (w.size : Int) := by clear ep; omega
    have hlen : ((w.data.toList.take j).map (mk1 T)).length ≤ 100 := by rw [List.length_map, List.length_take]; clear ep; omega
    have hz := sumZ_small ((w.data.toList.take j).map (mk1 T)) 5 (by decide) (fun s hs => by
      obtain ⟨c, _, rfl⟩ := List.mem_map.1 hs
      have := mk1_size T hT5 c
      clear ep; omega)
    have hJ := join_any 32 ((w.data.toList.take j).map (mk1 T)) (by clear ep; omega) (by clear ep; omega)
    have hWl : W.length < 8796093022208 := by clear ep; omega
    simp only [impl_encode.l1, Nat.add_zero, hjn, if_false, hJ, Option.bind_some, hWl, if_true, ep]
    rw [List.take_of_length_le (by clear ep; omega)]; rfl
  | succ d ih =>
    intro k j hk hj hd
    obtain ⟨k, rfl⟩ : ∃ m, k = m + 1 := ⟨q + d + 1, by clear ep ih; omega⟩
    have hlt : j < w.data.toList.length := by clear ep ih; omega
    obtain ⟨c, hcl, hc0, htake⟩ : ∃ c : UInt8, bt w (j : Int) = ((c.toNat : Nat) : Int) ∧ letOk T.length c = true ∧ w.data.toList.take (j + 1) = w.data.toList.take j ++ [c] := ⟨w.data.toList[j], bt_nat w j (by clear ep ih; omega), List.all_eq_true.1 hok _ (List.getElem_mem hlt), List.take_succ_eq_append_getElem hlt⟩
    have hc := letOk_le hc0
    have n := ih k (j + 1) (Nat.succ.inj hk) (by clear ep ih; omega) (by clear ep ih; omega)
    have hlen : ((w.data.toList.take j).map (mk1 T)).length < 8796093022208 := by rw [List.length_map, List.length_take]; clear ep ih n; omega
    have c1 : (j : Int) < (w.size : Int) := by clear ep ih n; omega
    have c2 : (0 : Int) ≤ (j : Int) := by clear ep ih n; omega
    have e5 : (((c.toNat : Nat) : Int) - 97) % 256 = ((c.toNat : Nat) : Int) - 97 := by clear ep ih n; omega
    have g1 : (0 : Int) ≤ ((c.toNat : Nat) : Int) - 97 := by clear ep ih n e5; omega
    have g2 : ((c.toNat : Nat) : Int) - 97 < (T.length : Int) := by clear ep ih n e5; omega
    have e1 : wrap64 ((j : Int) + 1) = ((j + 1 : Nat) : Int) := by clear ep ih n e5; rw [wr (by omega) (by omega)]; omega
    rw [htake, List.map_append, List.map_cons, List.map_nil] at n
    simp only [impl_encode.l1, c1, c2, if_true, hcl, e5, g1, g2, hlen, rd_mk1 T c hc.1, e1]
    exact n
theorem iEnc_l0 (T : List ByteArray) (hT : T.length ≤ 10) (hT5 : ∀ c ∈ T, c.size ≤ 5) (F : List (List UInt8)) (hF : F.length ≤ 50) (hw : ∀ w ∈ F, w.all (letOk T.length) = true ∧ w.length ≤ 50) (d : Nat) : ∀ (k p : Nat), p ≤ F.length → F.length - p = d → 100 * d < k →
    impl_encode.l0 k ((F.take p).map (Jw T)) (F.map fun l => (⟨l.toArray⟩ : ByteArray)) ((F.map fun l => (⟨l.toArray⟩ : ByteArray)).length : Int) (p : Int) T = some (joinB 47 (F.map (Jw T))) := by
  have hXl : (F.map fun l => (⟨l.toArray⟩ : ByteArray)).length = F.length := List.length_map _
  induction d with
  | zero =>
    intro k p hp hd hk
    obtain ⟨k, rfl⟩ := pred_of_lt hk
    have hpn : ¬ (p : Int) < (((F.map fun l => (⟨l.toArray⟩ : ByteArray)).length : Nat) : Int) := by rw [hXl]; omega
    rw [List.take_of_length_le (by omega)]
    have hz := sumZ_small (F.map (Jw T)) 1000 (by decide) (fun s hs => by
      obtain ⟨w, hwF, rfl⟩ := List.mem_map.1 hs
      obtain ⟨_, h50⟩ := hw w hwF
      by_cases h0 : w = []
      · subst h0; show ((joinB 32 []).size : Int) ≤ 1000; rw [joinB_nil]; decide
      · have h1 := joinB_size 32 (w.map (mk1 T)) (by simpa using h0)
        have h2 := sumZ_small (w.map (mk1 T)) 5 (by decide) (fun s hs => by
          obtain ⟨c, _, rfl⟩ := List.mem_map.1 hs
          have := mk1_size T hT5 c
          omega)
        rw [List.length_map] at h1 h2
        show ((joinB 32 (w.map (mk1 T))).size : Int) ≤ 1000
        omega)
    rw [List.length_map] at hz
    have hJ := join_any 47 (F.map (Jw T)) (by rw [List.length_map]; omega) (by rw [List.length_map]; omega)
    simp only [impl_encode.l0, hpn, if_false, hJ, Option.bind_some]
  | succ d ih =>
    intro k p hp hd hk
    obtain ⟨k, rfl⟩ := pred_of_lt hk
    have hlt : p < F.length := by omega
    obtain ⟨w, hwF, hget, htake⟩ : ∃ w, w ∈ F ∧ rdOf ByteArray.empty (F.map fun l => (⟨l.toArray⟩ : ByteArray)) (p : Int) = (⟨w.toArray⟩ : ByteArray) ∧ F.take (p + 1) = F.take p ++ [w] := ⟨F[p], List.getElem_mem hlt, by rw [rdS_get _ p (by rw [hXl]; exact hlt), List.getElem_map], List.take_succ_eq_append_getElem hlt⟩
    obtain ⟨w1, w2⟩ := hw w hwF
    have hws : (⟨w.toArray⟩ : ByteArray).size = w.length := txt_size w
    have n := ih (k - w.length - 1) (p + 1) (by omega) (by omega) (by omega)
    have s := iEnc_l1 T hT hT5 ((F.take p).map (Jw T)) (F.map fun l => (⟨l.toArray⟩ : ByteArray)) (by rw [List.length_map, List.length_take]; omega) p (by rw [hXl]; omega) (by omega) (⟨w.toArray⟩ : ByteArray) (by omega) w1 (k - w.length - 1) w.length k 0 (by omega) (by omega) (by omega)
    rw [List.take_zero, List.map_nil, Int.natCast_zero] at s
    rw [htake, List.map_append, List.map_cons, List.map_nil] at n
    have c1 : (p : Int) < (((F.map fun l => (⟨l.toArray⟩ : ByteArray)).length : Nat) : Int) := by rw [hXl]; omega
    have c2 : (0 : Int) ≤ (p : Int) := by omega
    simp only [impl_encode.l0, c1, c2, if_true, hget]
    rw [s]
    exact n
theorem isMsg_okR (T : List ByteArray) (m : ByteArray) (h : isMsg T m = true) : m.size ≤ 12 ∧ mAll m T.length = true ∧ (m.data.toList = [] ∨ okR T.length false m.data.toList = true) := by
  simp only [isMsg, Bool.and_eq_true, decide_eq_true_eq] at h
  refine ⟨h.1, h.2, ?_⟩
  by_cases h0 : m.size = 0
  · left; exact List.length_eq_zero_iff.1 (by rw [size_data]; exact h0)
  · right
    have := okR_at m T.length h.2 (by omega) m.size 0 (by omega) (by omega)
    rw [List.drop_zero] at this
    exact this
theorem okR_byte (n : Nat) (hn : n ≤ 10) (l : List UInt8) : ∀ p, okR n p l = true → ∀ c ∈ l, c.toNat < 128 := by
  induction l with
  | nil => intro p _ c hc; cases hc
  | cons a l ih =>
    intro p h c hc
    simp only [okR] at h
    by_cases h32 : a = 32
    · rw [if_pos h32, Bool.and_eq_true] at h
      rcases List.mem_cons.1 hc with rfl | hc
      · rw [h32]; decide
      · exact ih false h.2 c hc
    · rw [if_neg h32, Bool.and_eq_true] at h
      rcases List.mem_cons.1 hc with rfl | hc
      · have := letOk_le h.1; omega
      · exact ih true h.2 c hc
theorem encode_eq (T : List ByteArray) (hT : T.length ≤ 10) (hT5 : ∀ c ∈ T, c.size ≤ 5) (m : ByteArray) (h : isMsg T m = true) (k : Nat) (hk : 5000 < k) : impl_encode.f k T m = some (encB T m) := by
  obtain ⟨h12, _, hr⟩ := isMsg_okR T m h
  have hsz := size_data m
  have hF : (Lib.fields m.data.toList).length ≤ 13 := by
    have := strings_Fields.cnt m.data.toList true
    rw [← Lib.fields_length] at this
    omega
  have hasc : m.data.toList.all (fun b => decide (b.toNat < 128)) = true := by
    rw [List.all_eq_true]
    intro c hc
    rcases hr with h0 | h0
    · rw [h0] at hc; cases hc
    · have := okR_byte T.length hT _ _ h0 c hc
      simpa using this
  have hwd : ∀ w ∈ Lib.fields m.data.toList, w.all (letOk T.length) = true ∧ w.length ≤ 50 := fun w hw => by
    rcases hr with h0 | h0
    · rw [h0] at hw; cases hw
    · have := words_ok T.length m.data.toList false [] h0 rfl w hw
      rw [List.length_nil] at this
      exact ⟨this.1, by omega⟩
  unfold impl_encode.f strings_Fields.f
  rw [if_pos (by omega), if_pos hasc]
  simp only [Option.bind_some]
  have := iEnc_l0 T hT hT5 (Lib.fields m.data.toList) (by omega) hwd (Lib.fields m.data.toList).length k 0 (by omega) (by omega) (by omega)
  rw [List.take_zero, List.map_nil, Int.natCast_zero] at this
  rw [this, words_enc T T.length hT _ hr]; rfl
/-! all marks of a message -/
def bareM (T : List ByteArray) : List UInt8 → ByteArray → ByteArray
  | [], acc => acc
  | c :: l, acc => if c = 32 then bareM T l acc else bareM T l (acc ++ mk1 T c)
theorem sBareM_l0 (T : List ByteArray) (hT : T.length ≤ 10) (hT5 : ∀ c ∈ T, c.size ≤ 5) (m : ByteArray) (hm : m.size ≤ 1048576) (hall : mAll m T.length = true) (d : Nat) : ∀ (k i : Nat) (acc : ByteArray), i ≤ m.size → m.size - i = d → d < k → acc.size + 5 * d ≤ 5000 →
    spec_l2Bare.l0 k m acc (i : Int) T = some (bareM T (m.data.toList.drop i) acc) := by
  have hsz := size_data m
  have hma : ∀ i, i < m.size → mAt m T.length i = true := fun i hi => List.all_eq_true.1 hall i (List.mem_range.2 hi)
  induction d with
  | zero =>
    intro k i acc hi hd hk ha
    obtain ⟨k, rfl⟩ := pred_of_lt hk
    simp only [spec_l2Bare.l0]
    rw [if_neg (by omega), List.drop_eq_nil_of_le (by omega)]; rfl
  | succ d ih =>
    intro k i acc hi hd hk ha
    obtain ⟨k, rfl⟩ := pred_of_lt hk
    have hlt : i < m.data.toList.length := by omega
    have h := hma i (by omega)
    obtain ⟨c, hc⟩ : ∃ c, m.data.toList[i] = c := ⟨_, rfl⟩
    have hb := bt_c m i (by omega) c hc
    have c1 : (i : Int) < (m.size : Int) := by omega
    have c2 : (0 : Int) ≤ (i : Int) := by omega
    have e1 : wrap64 ((i : Int) + 1) = ((i + 1 : Nat) : Int) := by rw [wr (by omega) (by omega)]; omega
    rw [List.drop_eq_getElem_cons hlt, hc]
    unfold mAt at h
    by_cases h32 : bt m (i : Int) = 32
    · have hc32 : c = 32 := by rw [hb] at h32; exact (c32 c).1 h32
      have n := ih k (i + 1) acc (by clear e1; omega) (by clear e1; omega) (by clear e1; omega) (by clear e1; omega)
      simp only [spec_l2Bare.l0, c1, c2, if_true, h32, e1, bareM, hc32]
      exact n
    · have hc32 : ¬ c = 32 := fun e => h32 (by rw [hb]; exact (c32 c).2 e)
      rw [if_neg h32] at h
      simp only [Bool.and_eq_true, decide_eq_true_eq, hb] at h
      have h97 : 97 ≤ c.toNat ∧ c.toNat < 97 + T.length := by clear e1 ih; omega
      have h5 := mk1_size T hT5 c
      have n := ih k (i + 1) (acc ++ mk1 T c) (by clear e1; omega) (by clear e1; omega) (by clear e1; omega) (by rw [ByteArray.size_append]; clear e1; omega)
      have g2 : (0 : Int) ≤ ((c.toNat : Nat) : Int) - 97 := by clear e1 ih n; omega
      have g3 : ((c.toNat : Nat) : Int) - 97 < (T.length : Int) := by clear e1 ih n; omega
      have g4 : acc.size + (mk1 T c).size ≤ 9223372036854775807 := by clear e1 ih n; omega
      have n32 : (((c.toNat : Nat) : Int) = 32) = False := eq_false (fun e => hc32 ((c32 c).1 e))
      simp only [spec_l2Bare.l0, c1, c2, if_true, hb, n32, if_false, let_num, g2, g3, g4, rd_mk1 T c h97.1, e1, bareM, hc32]
      exact n
theorem l2BareM_eq (T : List ByteArray) (hT : T.length ≤ 10) (hT5 : ∀ c ∈ T, c.size ≤ 5) (m : ByteArray) (hm : m.size ≤ 100) (hall : mAll m T.length = true) (k : Nat) (hk : m.size < k) : spec_l2Bare.f k T m = some (bareM T m.data.toList (⟨#[]⟩ : ByteArray)) := by
  obtain ⟨e, he⟩ : ∃ e : ByteArray, e = (⟨#[]⟩ : ByteArray) := ⟨_, rfl⟩
  have z : e.size = 0 := by rw [he]; rfl
  have this := sBareM_l0 T hT hT5 m (by omega) hall m.size k 0 e (by omega) (by omega) hk (by omega)
  rw [List.drop_zero, Int.natCast_zero, he] at this
  unfold spec_l2Bare.f
  exact this
theorem data_app (a b : ByteArray) : (a ++ b).data.toList = a.data.toList ++ b.data.toList := by
  rw [ByteArray.data_append, Array.toList_append]
theorem goodT_mk : ∀ (l seen : List ByteArray), goodT seen l = true → ∀ c ∈ l, isMk c 1 5 = true
  | [], _, _, c, h => by cases h
  | a :: t, seen, h, c, hc => by
    simp only [goodT, Bool.and_eq_true] at h
    rcases List.mem_cons.1 hc with rfl | hc
    · exact h.1
    · exact goodT_mk t _ h.2.2 c hc
/-! a law whose function is handed a table, and answers something and a bool -/
theorem law_BareOf (l0 : List ByteArray) (a1 : ByteArray) (hsz : ¬ (a1.size : Int) > 1048576) (hl : l0.length ≤ maxLen) (hs : ∀ s ∈ l0, s.size ≤ maxLen) (K : Nat)
    (h : l0.length ≤ 1048576 → (∀ s ∈ l0, s.size ≤ 1048576) → ∃ R, ∀ k, K ≤ k → spec_BareOf.f k l0 a1 = some R ∧ impl_BareOf.f k l0 a1 = some R) : ∃ k, laws_FnExactBareOf.f k l0 a1 = some true := by
  skip
  obtain ⟨t, ht, hb⟩ := szTable_eq l0 hl hs
  by_cases h0 : t < 0
  · refine ⟨l0.length + 1, ?_⟩
    unfold laws_FnExactBareOf.f
    simp only [ht (l0.length + 1) (by omega), Option.bind_some, h0, if_true, if_false, ite_self, hsz]
  · obtain ⟨h1, h2⟩ := hb (by omega)
    obtain ⟨R, hR⟩ := h h1 h2
    obtain ⟨M, hM⟩ : ∃ M : Nat, K ≤ M ∧ 4194400 ≤ M := ⟨K + 4194400, by omega, by omega⟩
    refine ⟨M + 1, ?_⟩
    have r := hR (M + 1) (by omega)
    unfold laws_FnExactBareOf.f
    simp only [ht (M + 1) (by omega), Option.bind_some, h0, if_false, hsz]
    simp only [toTable_eq l0 h1 (M + 1) (by omega), r.1, r.2, Option.bind_some, bne_self_eq_false, Bool.false_eq_true, if_false, if_true]
    simp only [laws_FnExactBareOf.j0, toTable_eq l0 h1 (M) (by omega), eqTable_self l0 h1 (M) (by omega), Option.bind_some, Bool.false_eq_true, if_false, if_true]
theorem outS_size (T : List ByteArray) (hT5 : ∀ c ∈ T, c.size ≤ 5) : ∀ (l : List UInt8) (p : Bool) (a : ByteArray), (outS T p l a).size ≤ a.size + 6 * l.length
  | [], p, a => Nat.le_refl _
  | c :: l, p, a => by
    have z47 : (⟨#[47]⟩ : ByteArray).size = 1 := rfl
    have z32 : (⟨#[32]⟩ : ByteArray).size = 1 := rfl
    have h5 := mk1_size T hT5 c
    simp only [outS, List.length_cons]
    split
    · have := outS_size T hT5 l false (a ++ (⟨#[47]⟩ : ByteArray))
      rw [ByteArray.size_append, z47] at this; omega
    · cases p with
      | true =>
        have := outS_size T hT5 l true ((a ++ (⟨#[32]⟩ : ByteArray)) ++ mk1 T c)
        rw [ByteArray.size_append, ByteArray.size_append, z32] at this
        rw [if_pos rfl]; omega
      | false =>
        have := outS_size T hT5 l true (a ++ mk1 T c)
        rw [ByteArray.size_append] at this
        rw [if_neg (by decide)]; omega
theorem out_keep (T : List ByteArray) : ∀ (l : List UInt8) (p : Bool) (a b : ByteArray), a.data.toList.filter impl_bare.keep = b.data.toList.filter impl_bare.keep → (outS T p l a).data.toList.filter impl_bare.keep = (bareM T l b).data.toList.filter impl_bare.keep
  | [], p, a, b, h => h
  | c :: l, p, a, b, h => by
    have e47 : (⟨#[47]⟩ : ByteArray).data.toList = [47] := rfl
    have e32 : (⟨#[32]⟩ : ByteArray).data.toList = [32] := rfl
    have n47 : ([47] : List UInt8).filter impl_bare.keep = [] := by decide
    have n32 : ([32] : List UInt8).filter impl_bare.keep = [] := by decide
    simp only [outS, bareM]
    by_cases h32 : c = 32
    · rw [if_pos h32, if_pos h32]
      exact out_keep T l false _ _ (by rw [data_app, List.filter_append, e47, n47, List.append_nil]; exact h)
    · rw [if_neg h32, if_neg h32]
      refine out_keep T l true _ _ ?_
      rw [data_app, data_app, List.filter_append, List.filter_append]
      split
      · rw [data_app, List.filter_append, e32, n32, List.append_nil, h]
      · rw [h]
/-- marks are dots and dashes alone -/
theorem bare_marks (T : List ByteArray) (hT : ∀ c ∈ T, c.data.toList.all dotDash = true) : ∀ (l : List UInt8) (a : ByteArray), a.data.toList.all dotDash = true → (bareM T l a).data.toList.all dotDash = true
  | [], a, h => h
  | c :: l, a, h => by
    simp only [bareM]
    split
    · exact bare_marks T hT l a h
    · refine bare_marks T hT l _ ?_
      rw [data_app, List.all_append, h, Bool.true_and]
      unfold mk1
      rw [List.getD_eq_getElem?_getD]
      by_cases hc : c.toNat - 97 < T.length
      · rw [List.getElem?_eq_getElem hc]; exact hT _ (List.getElem_mem hc)
      · rw [List.getElem?_eq_none (by omega)]; rfl
theorem keep_all (l : List UInt8) (h : l.all dotDash = true) : l.filter impl_bare.keep = l := by
  refine List.filter_eq_self.2 fun c hc => ?_
  have := List.all_eq_true.1 h c hc
  have : c = 46 ∨ c = 45 := by simpa [dotDash] using this
  rcases this with rfl | rfl <;> decide
theorem FnExactBareOf : laws_FnExactBareOf.Pure := by
  intro l a1 hl hs _
  by_cases hsz : (a1.size : Int) > 1048576
  · refine ⟨0, ?_⟩
    unfold laws_FnExactBareOf.f
    rw [if_pos hsz]
  refine law_BareOf l a1 hsz hl hs 4194401 fun h1 h2 => ?_
  by_cases ht : isTab l = true
  · obtain ⟨hmem, _, _, h10⟩ := isTab_mem l ht
    have h5 : ∀ c ∈ l, c.size ≤ 5 := fun c hc => (hmem c hc).2
    by_cases hm : isMsg l a1 = true
    · obtain ⟨h12, hall, _⟩ := isMsg_okR l a1 hm
      have hgood : goodT [] l = true := by simp only [isTab, Bool.and_eq_true] at ht; exact ht.2
      have hdd : ∀ c ∈ l, c.data.toList.all dotDash = true := fun c hc => by
        have := goodT_mk l [] hgood c hc
        simp only [isMk, Bool.and_eq_true] at this
        exact this.2
      obtain ⟨s, hse⟩ : ∃ s, s = bareM l a1.data.toList (⟨#[]⟩ : ByteArray) := ⟨_, rfl⟩
      have ho := bare_marks l hdd a1.data.toList (⟨#[]⟩ : ByteArray) rfl
      rw [← hse] at ho
      have hk1 := out_keep l a1.data.toList false (⟨#[]⟩ : ByteArray) (⟨#[]⟩ : ByteArray) rfl
      rw [← hse, keep_all _ ho] at hk1
      have hz : (encB l a1).size ≤ 1000000 := by
        have z0 : (⟨#[]⟩ : ByteArray).size = 0 := rfl
        have := outS_size l h5 a1.data.toList false (⟨#[]⟩ : ByteArray)
        have hsa := size_data a1
        rw [z0] at this
        unfold encB; omega
      have hb : impl_bare.f (encB l a1) = some s := by
        unfold impl_bare.f
        rw [if_pos hz]
        have : impl_bare.opp (encB l a1) = s := by
          unfold impl_bare.opp
          have e : (encB l a1).data.toList.filter impl_bare.keep = s.data.toList := hk1
          rw [e]
        rw [this]
      refine ⟨(s, true), fun k hk => ?_⟩
      have bm := l2BareM_eq l h10 h5 a1 (by omega) hall k (by omega)
      rw [← hse] at bm
      have en := encode_eq l h10 h5 a1 hm k (by omega)
      unfold spec_BareOf.f impl_BareOf.f impl_areValid.f
      rw [l2Table_eq l h1 h2 _ (by omega), isTable_eq l h1 h2 _ (by omega), ht, l2Message_eq l h1 a1 (by omega) k (by omega), isMessage_eq l h1 a1 (by omega) k (by omega), hm]
      simp only [Option.bind_some, if_true, en, hb, bm]
      exact ⟨trivial, trivial⟩
    · refine ⟨((⟨#[]⟩ : ByteArray), false), fun k hk => ?_⟩
      unfold spec_BareOf.f impl_BareOf.f impl_areValid.f
      rw [l2Table_eq l h1 h2 _ (by omega), isTable_eq l h1 h2 _ (by omega), ht, l2Message_eq l h1 a1 (by omega) k (by omega), isMessage_eq l h1 a1 (by omega) k (by omega), (Bool.not_eq_true _).mp hm]
      exact ⟨rfl, rfl⟩
  · refine ⟨((⟨#[]⟩ : ByteArray), false), fun k hk => ?_⟩
    unfold spec_BareOf.f impl_BareOf.f impl_areValid.f
    rw [l2Table_eq l h1 h2 _ (by omega), isTable_eq l h1 h2 _ (by omega), (Bool.not_eq_true _).mp ht]
    exact ⟨rfl, rfl⟩

end Go.Proofs.YtpdojionnmehbaaGreatDoor.Pure
