/- ShortestReading of the program and of the reference answer alike at every table and text. -/
import Derived.Test.YtajmbipefekecaaDoorHFnExactShortestReadingx6
namespace Go.Proofs.YtajmbipefekecaaDoor.Pure
open Go.RowKit Go.Proofs.YtajmbipefekecaaDoor.HFnExactShortestReading Go.Proofs.YtajmbipefekecaaDoorW.PrintWords Go.Proofs.YtajmbipefekecaaDoorW.PrintLast
set_option linter.unusedVariables false
set_option linter.unusedSimpArgs false
set_option linter.unnecessarySimpa false

theorem wr {i : Int} (h0 : -9223372036854775808 ≤ i) (h1 : i ≤ 9223372036854775807) : wrap64 i = i := by unfold wrap64; omega
theorem rd_nat (xs : List Int) (i : Nat) : rd xs (i : Int) = xs.getD i 0 := by simp [rd]
theorem rd_get (xs : List Int) (i : Nat) (h : i < xs.length) : rd xs (i : Int) = xs[i] := by simp [rd, h]
theorem pred_of_lt {d k : Nat} (h : d < k) : ∃ m, k = m + 1 := ⟨k - 1, by omega⟩
/-! bytes of a text -/
theorem size_data (s : ByteArray) : s.data.toList.length = s.size := Array.length_toList
theorem bt_nat (s : ByteArray) (i : Nat) (h : i < s.size) : bt s (i : Int) = ((s.data.toList[i]'(by rw [size_data]; exact h)).toNat : Int) := by
  have := bt_at s (i : Int) (by simpa using h)
  rw [← this]
  rfl
theorem byte_num (b c : UInt8) (n : Nat) (hc : c.toNat = n) : ((b.toNat : Int) = (n : Int)) ↔ b = c := by
  constructor
  · intro h
    exact UInt8.toNat_inj.1 (by omega)
  · rintro rfl; omega
/-! what is left when bytes of a set are taken off both ends -/
theorem dropWhile_nil {p : UInt8 → Bool} (l : List UInt8) : l.dropWhile p = [] ↔ l.all p = true := by
  induction l with
  | nil => simp
  | cons a l ih =>
    rw [List.dropWhile_cons]
    by_cases h : p a = true
    · rw [if_pos h, ih]; simp [h]
    · rw [if_neg h]; simp [h]
theorem trimS_nil (l cs : List UInt8) : Lib.trimS l cs = [] ↔ l.all (cs.contains ·) = true := by
  unfold Lib.trimS Lib.trimLeftS Lib.trimRightS
  rw [dropWhile_nil]
  constructor
  · intro h
    by_cases hr : (l.reverse.dropWhile (cs.contains ·)) = []
    · rw [dropWhile_nil, List.all_reverse] at hr; exact hr
    · exfalso
      rw [List.all_reverse] at h
      cases hd : l.reverse.dropWhile (cs.contains ·) with
      | nil => exact hr hd
      | cons a t =>
        have ha : cs.contains a = false := by
          have := List.head?_dropWhile_not (cs.contains ·) l.reverse
          rw [hd] at this
          simpa using this
        rw [hd] at h
        simp at h
        rw [List.contains_eq_mem] at ha
        simp [h.1] at ha
  · intro h
    have : (l.reverse.dropWhile (cs.contains ·)) = [] := by
      rw [dropWhile_nil, List.all_reverse]; exact h
    rw [this]; rfl
theorem toList_nil (l : List UInt8) : ((⟨l.toArray⟩ : ByteArray).toList == ([] : List UInt8)) = l.isEmpty := by
  have : (⟨l.toArray⟩ : ByteArray).toList = l := by
    rw [ByteArray.toList_eq]
  rw [this]
  cases l <;> rfl
theorem l1In_eq (a b c : Int) : spec_l1In.f a b c = some (decide (b ≤ a) && decide (a ≤ c)) := by
  unfold spec_l1In.f
  by_cases h : a ≥ b
  · rw [if_pos h]; simp [show b ≤ a from h]
  · rw [if_neg h]; simp [show ¬ b ≤ a from h]
theorem in_eq (a b c : Int) : impl_in.f a b c = some (decide (b ≤ a) && decide (a ≤ c)) := by
  unfold impl_in.f
  by_cases h : a ≥ b
  · rw [if_pos h]; simp [show b ≤ a from h]
  · rw [if_neg h]; simp [show ¬ b ≤ a from h]
/-! lists of texts: their sizes, copies, comparisons -/
theorem rdS_get (xs : List ByteArray) (i : Nat) (h : i < xs.length) : rdOf ByteArray.empty xs (i : Int) = xs[i] := by simp [rdOf, h]
theorem toList_inj (a b : ByteArray) : a.toList = b.toList ↔ a = b := by
  rw [ByteArray.toList_eq, ByteArray.toList_eq]
  constructor
  · intro h; exact ByteArray.ext (Array.toList_inj.1 h)
  · rintro rfl; rfl
theorem szStringS_l0 (l : List ByteArray) (hl : l.length ≤ maxLen) (hs : ∀ s ∈ l, s.size ≤ maxLen) (d : Nat) : ∀ (i : Nat) (left : Int), 0 ≤ left → left ≤ 1048576 → i ≤ l.length → l.length - i = d →
    ∃ t : Int, (∀ k, d < k → laws_szStringS.l0 k l left (i : Int) = some t) ∧ t ≤ left ∧ (0 ≤ t → ∀ j (h : j < l.length), i ≤ j → (l[j].size : Int) ≤ left) := by
  unfold maxLen at hl hs
  induction d with
  | zero =>
    intro i left h0 h1 hi hd
    refine ⟨left, fun k hk => ?_, by omega, fun _ j h hij => by omega⟩
    obtain ⟨k, rfl⟩ := pred_of_lt hk
    simp only [laws_szStringS.l0]; rw [if_neg (by omega)]
  | succ d ih =>
    intro i left h0 h1 hi hd
    have hlt : i < l.length := by omega
    have hsz := hs _ (List.getElem_mem hlt)
    have c1 : (i : Int) < (l.length : Int) := by omega
    have c2 : (0 : Int) ≤ (i : Int) := by omega
    have e1 : wrap64 ((i : Int) + 1) = ((i + 1 : Nat) : Int) := by rw [wr (by omega) (by omega)]; omega
    have e2 : wrap64 (left - (l[i].size : Int)) = left - (l[i].size : Int) := by rw [wr (by omega) (by omega)]
    by_cases hc : left - (l[i].size : Int) < 0
    · refine ⟨-1, fun k hk => ?_, by omega, fun h => by omega⟩
      obtain ⟨k, rfl⟩ := pred_of_lt hk
      simp only [laws_szStringS.l0, c1, c2, if_true, rdS_get l i hlt, e2, hc]
    · obtain ⟨t, ht, h2, h3⟩ := ih (i + 1) (left - (l[i].size : Int)) (by omega) (by omega) (by omega) (by omega)
      refine ⟨t, fun k hk => ?_, by omega, fun h0t j h hij => ?_⟩
      · obtain ⟨k, rfl⟩ := pred_of_lt hk
        simp only [laws_szStringS.l0, c1, c2, if_true, rdS_get l i hlt, e2, hc, if_false, e1]
        exact ht k (by omega)
      · by_cases hji : i = j
        · subst hji; omega
        · have := h3 h0t j h (by omega); omega
theorem szStringS_eq (l : List ByteArray) (hl : l.length ≤ maxLen) (hs : ∀ s ∈ l, s.size ≤ maxLen) : ∃ t : Int, (∀ k, l.length < k → laws_szStringS.f k l 1048576 = some t) ∧ (0 ≤ t → l.length ≤ 1048576 ∧ ∀ s ∈ l, s.size ≤ 1048576) := by
  have hl' := hl
  unfold maxLen at hl'
  have e : wrap64 (1048576 - (l.length : Int)) = 1048576 - (l.length : Int) := by rw [wr (by omega) (by omega)]
  by_cases hc : 1048576 - (l.length : Int) < 0
  · refine ⟨-1, fun k hk => ?_, fun h => by omega⟩
    unfold laws_szStringS.f
    rw [e, if_pos hc]
  · obtain ⟨t, ht, h2, h3⟩ := szStringS_l0 l hl hs l.length 0 (1048576 - (l.length : Int)) (by omega) (by omega) (by omega) (by omega)
    refine ⟨t, fun k hk => ?_, fun h0 => ⟨by omega, fun s hsm => ?_⟩⟩
    · unfold laws_szStringS.f
      rw [e, if_neg hc]
      exact ht k hk
    · obtain ⟨j, hj, rfl⟩ := List.getElem_of_mem hsm
      have := h3 h0 j hj (by omega)
      omega
theorem toStringS_l0 (x0 : List ByteArray) (hx : x0.length ≤ 1048576) (d : Nat) : ∀ (k i : Nat) (x3 : List ByteArray), i ≤ x0.length → x0.length - i = d → d < k → x3.length = x0.length → (∀ j, j < i → x3[j]? = x0[j]?) →
    laws_toStringS.l0 k x0 x3 (i : Int) = some x0 := by
  induction d with
  | zero =>
    intro k i x3 hi hd hk hl ht
    obtain ⟨k, rfl⟩ := pred_of_lt hk
    simp only [laws_toStringS.l0]; rw [if_neg (by omega)]
    refine congrArg some (List.ext_getElem? fun j => ?_)
    by_cases hj : j < i
    · exact ht j hj
    · rw [List.getElem?_eq_none (by omega), List.getElem?_eq_none (by omega)]
  | succ d ih =>
    intro k i x3 hi hd hk hl ht
    obtain ⟨k, rfl⟩ := pred_of_lt hk
    simp only [laws_toStringS.l0]; rw [if_pos (by omega), if_pos (by omega), if_pos (by omega), wr (by omega) (by omega)]
    have e : ((i : Int) + 1) = ((i + 1 : Nat) : Int) := by omega
    rw [e, Int.toNat_natCast, rdS_get x0 i (by omega)]
    refine ih k (i + 1) _ (by omega) (by omega) (by omega) (by simpa using hl) fun j hj => ?_
    rw [List.getElem?_set]
    by_cases hji : i = j
    · subst hji
      simp [show i < x3.length by omega, show i < x0.length by omega]
    · rw [if_neg hji]; exact ht j (by omega)
theorem toStringS_eq (l : List ByteArray) (h : l.length ≤ 1048576) (k : Nat) (hk : l.length < k) : laws_toStringS.f k l = some l := by
  unfold laws_toStringS.f
  rw [if_pos (by omega), if_pos (by omega)]
  exact toStringS_l0 l (by omega) l.length k 0 _ (by omega) (by omega) hk (by simp) (fun j hj => by omega)
theorem eqStringS_l0 (a : List ByteArray) (ha : a.length ≤ 1048576) (d : Nat) : ∀ (k i : Nat), i ≤ a.length → a.length - i = d → d < k → laws_eqStringS.l0 k a a (i : Int) = some true := by
  induction d with
  | zero =>
    intro k i hi hd hk
    obtain ⟨k, rfl⟩ := pred_of_lt hk
    simp only [laws_eqStringS.l0]; rw [if_neg (by omega)]
  | succ d ih =>
    intro k i hi hd hk
    obtain ⟨k, rfl⟩ := pred_of_lt hk
    simp only [laws_eqStringS.l0, if_true]; rw [if_pos (by omega), if_pos (by omega), if_pos (by omega), wr (by omega) (by omega)]
    have e : ((i : Int) + 1) = ((i + 1 : Nat) : Int) := by omega
    rw [e]
    exact ih k (i + 1) (by omega) (by omega) (by omega)
theorem eqStringS_self (a : List ByteArray) (ha : a.length ≤ 1048576) (k : Nat) (hk : a.length < k) : laws_eqStringS.f k a a = some true := by
  unfold laws_eqStringS.f
  rw [if_pos rfl]
  exact eqStringS_l0 a ha a.length k 0 (by omega) (by omega) hk
/-! a table that a law is handed -/
theorem szTable_eq (l : List ByteArray) (hl : l.length ≤ maxLen) (hs : ∀ s ∈ l, s.size ≤ maxLen) : ∃ t : Int, (∀ k, l.length < k → laws_szTable.f k l 1048576 = some t) ∧ (0 ≤ t → l.length ≤ 1048576 ∧ ∀ s ∈ l, s.size ≤ 1048576) := by
  obtain ⟨t, ht, h⟩ := szStringS_eq l hl hs
  by_cases h0 : t < 0
  · refine ⟨-1, fun k hk => ?_, fun h => by omega⟩
    unfold laws_szTable.f
    rw [ht k hk]; simp only [Option.bind_some]; rw [if_pos h0]
  · refine ⟨t, fun k hk => ?_, h⟩
    unfold laws_szTable.f
    rw [ht k hk]; simp only [Option.bind_some]; rw [if_neg h0]
theorem toTable_eq (l : List ByteArray) (h : l.length ≤ 1048576) (k : Nat) (hk : l.length < k) : laws_toTable.f k l = some l := by
  unfold laws_toTable.f; rw [toStringS_eq l h k hk]; rfl
theorem eqTable_self (l : List ByteArray) (h : l.length ≤ 1048576) (k : Nat) (hk : l.length < k) : laws_eqTable.f k l l = some true := by
  unfold laws_eqTable.f; rw [eqStringS_self l h k hk]; rfl
/-! marks, as both sides ask for them -/
def dotDash (b : UInt8) : Bool := b == 46 || b == 45
def isMk (s : ByteArray) (lo hi : Int) : Bool := (decide (lo ≤ (s.size : Int)) && decide ((s.size : Int) ≤ hi)) && s.data.toList.all dotDash
theorem bt_is (s : ByteArray) (i : Nat) (h : i < s.size) (c : UInt8) (n : Int) (hc : (c.toNat : Int) = n) : (bt s (i : Int) = n) ↔ (s.data.toList[i]'(by rw [size_data]; exact h)) = c := by
  rw [bt_nat s i h, ← hc]
  constructor
  · intro e; exact UInt8.toNat_inj.1 (by omega)
  · intro e; rw [e]
theorem l2Marks_l0 (s : ByteArray) (hs : s.size ≤ 1048576) (lo hi : Int) (d : Nat) : ∀ (k i : Nat), i ≤ s.size → s.size - i = d → 2 * d + 1 < k → (s.data.toList.take i).all dotDash = true → spec_l2Marks.l0 k s lo hi (i : Int) = some (isMk s lo hi) := by
  have hsz := size_data s
  induction d with
  | zero =>
    intro k i hi' hd hk ht
    obtain ⟨k, rfl⟩ := pred_of_lt hk
    obtain ⟨k, rfl⟩ : ∃ m, k = m + 1 := ⟨k - 1, by omega⟩
    simp only [spec_l2Marks.l0]; rw [if_neg (by omega)]
    simp only [spec_l2Marks.j1]; rw [if_neg (by simp), l1In_eq]
    rw [List.take_of_length_le (by omega)] at ht
    simp only [Option.bind_some, isMk, ht, Bool.and_true]
  | succ d ih =>
    intro k i hi' hd hk ht
    obtain ⟨k, rfl⟩ := pred_of_lt hk
    obtain ⟨k, rfl⟩ : ∃ m, k = m + 1 := ⟨k - 1, by omega⟩
    have c1 : (i : Int) < (s.size : Int) := by omega
    have c2 : (0 : Int) ≤ (i : Int) := by omega
    have e : wrap64 ((i : Int) + 1) = ((i + 1 : Nat) : Int) := by rw [wr (by omega) (by omega)]; omega
    simp only [spec_l2Marks.l0, c1, if_true, spec_l2Marks.j1]
    by_cases h200 : (i : Int) ≤ hi
    · have hd2 : decide ((i : Int) ≤ hi) = true := by simpa using h200
      simp only [hd2, c2, if_true, e]
      have hlt : i < s.data.toList.length := by omega
      have next : dotDash (s.data.toList[i]) = true → spec_l2Marks.l0 k s lo hi ((i + 1 : Nat) : Int) = some (isMk s lo hi) := fun hb => ih k (i + 1) (by omega) (by omega) (by omega) (by
        rw [List.take_succ_eq_append_getElem hlt, List.all_append, ht]; simp only [List.all_cons, List.all_nil, hb, Bool.and_true])
      by_cases h0 : bt s (i : Int) = 46
      · rw [if_pos h0]
        exact next (by rw [bt_is s i (by omega) 46 46 (by decide)] at h0; rw [h0]; decide)
      · rw [if_neg h0]
        by_cases h1 : bt s (i : Int) = 45
        · rw [if_pos h1]
          exact next (by rw [bt_is s i (by omega) 45 45 (by decide)] at h1; rw [h1]; decide)
        · rw [if_neg h1]
          rw [bt_is s i (by omega) 46 46 (by decide)] at h0
          rw [bt_is s i (by omega) 45 45 (by decide)] at h1
          have hm : s.data.toList[i] ∈ s.data.toList := List.getElem_mem _
          have hf : s.data.toList.all dotDash = false := by
            rw [List.all_eq_false]; exact ⟨_, hm, by simp only [dotDash, Bool.or_eq_true, beq_iff_eq, h0, h1, or_self, not_false_eq_true]⟩
          simp only [isMk, hf, Bool.and_false]
    · have hd2 : decide ((i : Int) ≤ hi) = false := by simpa using h200
      simp only [hd2, Bool.false_eq_true, if_false]
      have hn : decide ((s.size : Int) ≤ hi) = false := by simp; omega
      rw [l1In_eq]
      simp only [Option.bind_some, isMk, hn, Bool.and_false, Bool.false_and]
theorem l2Marks_eq (s : ByteArray) (hs : s.size ≤ 1048576) (lo hi : Int) (k : Nat) (hk : 2 * s.size + 1 < k) : spec_l2Marks.f k s lo hi = some (isMk s lo hi) := by
  unfold spec_l2Marks.f
  exact l2Marks_l0 s hs lo hi s.size k 0 (by omega) (by omega) hk (by simp)
theorem areMarks_eq (s : ByteArray) (hs : s.size ≤ 1048576) (lo hi : Int) : impl_areMarks.f s lo hi = some (isMk s lo hi) := by
  unfold impl_areMarks.f
  rw [in_eq]
  simp only [Option.bind_some]
  by_cases h : (decide (lo ≤ (s.size : Int)) && decide ((s.size : Int) ≤ hi)) = true
  · rw [if_pos h]
    unfold strings_Trim.f
    rw [if_pos (by omega), if_pos (by decide), if_pos (by decide)]
    simp only [Option.bind_some]
    rw [toList_nil]
    have e : (Lib.trimS s.data.toList [46, 45]).isEmpty = s.data.toList.all dotDash := by
      rw [Bool.eq_iff_iff, List.isEmpty_iff, trimS_nil]
      have : (fun x => [46, 45].contains x) = dotDash := by
        funext x
        simp [dotDash, List.contains_eq_mem]
        rfl
      rw [this]
    show some (Lib.trimS s.data.toList [46, 45]).isEmpty = _
    rw [e]
    simp only [isMk, h, Bool.true_and]
  · rw [if_neg h]
    simp only [isMk, (Bool.not_eq_true _).mp h, Bool.false_and]
theorem in_eq' (a b c : Int) : impl_in.f a b c = some (decide (b ≤ a) && decide (a ≤ c)) := in_eq a b c
/-! a table, as both sides ask for it -/
def has (l : List ByteArray) (a : ByteArray) : Bool := l.any fun b => a.toList == b.toList
def goodT : List ByteArray → List ByteArray → Bool
  | _, [] => true
  | seen, a :: t => isMk a 1 5 && (!has seen a && goodT (seen ++ [a]) t)
def isTab (l : List ByteArray) : Bool := (decide (1 ≤ (l.length : Int)) && decide ((l.length : Int) ≤ 10)) && goodT [] l
theorem take_snoc {α : Type} (l : List α) (i : Nat) (h : i < l.length) : l.take (i + 1) = l.take i ++ [l[i]] := List.take_succ_eq_append_getElem h
theorem drop_cons {α : Type} (l : List α) (i : Nat) (h : i < l.length) : l.drop i = l[i] :: l.drop (i + 1) := List.drop_eq_getElem_cons h
theorem has_take (l : List ByteArray) (a : ByteArray) (i : Nat) (h : i < l.length) : has (l.take (i + 1)) a = (has (l.take i) a || (a.toList == l[i].toList)) := by
  unfold has
  rw [take_snoc l i h, List.any_append]; simp only [List.any_cons, List.any_nil, Bool.or_false]
/-- where a text stands in a list first, or -1 -/
def placeN (l : List ByteArray) (a : ByteArray) : Int := match l.findIdx? (fun b => a.toList == b.toList) with
  | some i => (i : Int)
  | none => -1
theorem place_hit (l : List ByteArray) (a : ByteArray) (i : Nat) (hi : i < l.length) (h1 : has (l.take i) a = false) (h2 : a.toList = l[i].toList) : placeN l a = (i : Int) := by
  unfold placeN
  have : l.findIdx? (fun b => a.toList == b.toList) = some i := by
    rw [List.findIdx?_eq_some_iff_getElem]
    refine ⟨hi, by simpa using h2, fun j hj => ?_⟩
    intro hc
    have hm : l[j] ∈ l.take i := by
      rw [List.mem_take_iff_getElem]
      exact ⟨j, by omega, rfl⟩
    have ht : has (l.take i) a = true := List.any_eq_true.2 ⟨_, hm, hc⟩
    rw [h1] at ht; cases ht
  rw [this]
theorem place_none (l : List ByteArray) (a : ByteArray) (h : has l a = false) : placeN l a = -1 := by
  unfold placeN
  have : l.findIdx? (fun b => a.toList == b.toList) = none := by
    rw [List.findIdx?_eq_none_iff]
    intro x hx
    have := List.any_eq_false.1 h x hx
    simpa using this
  rw [this]
theorem l2Place_l0 (l : List ByteArray) (hl : l.length ≤ 1048576) (a : ByteArray) (d : Nat) : ∀ (k i : Nat), i ≤ l.length → l.length - i = d → d < k → has (l.take i) a = false → spec_l2Place.l0 k l a (i : Int) = some (placeN l a) := by
  induction d with
  | zero =>
    intro k i hi hd hk ht
    obtain ⟨k, rfl⟩ := pred_of_lt hk
    simp only [spec_l2Place.l0]; rw [if_neg (by omega)]
    rw [List.take_of_length_le (by omega)] at ht
    rw [place_none l a ht]
  | succ d ih =>
    intro k i hi hd hk ht
    obtain ⟨k, rfl⟩ := pred_of_lt hk
    have hlt : i < l.length := by omega
    simp only [spec_l2Place.l0]; rw [if_pos (by omega), if_pos (by omega), rdS_get l i hlt]
    by_cases hc : l[i].toList = a.toList
    · rw [if_pos hc, place_hit l a i hlt ht hc.symm]
    · rw [if_neg hc, wr (by omega) (by omega)]
      have e : ((i : Int) + 1) = ((i + 1 : Nat) : Int) := by omega
      rw [e]
      refine ih k (i + 1) (by omega) (by omega) (by omega) ?_
      rw [has_take l a i hlt, ht, Bool.false_or, beq_eq_false_iff_ne]
      exact fun e => hc e.symm
theorem l2Place_eq (l : List ByteArray) (hl : l.length ≤ 1048576) (a : ByteArray) (k : Nat) (hk : l.length < k) : spec_l2Place.f k l a = some (placeN l a) := by
  unfold spec_l2Place.f
  exact l2Place_l0 l hl a l.length k 0 (by omega) (by omega) hk (by simp [has])
theorem sIndex_l0 (l : List ByteArray) (hl : l.length ≤ 1048576) (a : ByteArray) (d : Nat) : ∀ (k i : Nat), i ≤ l.length → l.length - i = d → d < k → has (l.take i) a = false → slices_Index_string_string.l0 k l a (l.length : Int) (i : Int) = some (placeN l a) := by
  induction d with
  | zero =>
    intro k i hi hd hk ht
    obtain ⟨k, rfl⟩ := pred_of_lt hk
    simp only [slices_Index_string_string.l0]; rw [if_neg (by omega)]
    rw [List.take_of_length_le (by omega)] at ht
    rw [place_none l a ht]
  | succ d ih =>
    intro k i hi hd hk ht
    obtain ⟨k, rfl⟩ := pred_of_lt hk
    have hlt : i < l.length := by omega
    simp only [slices_Index_string_string.l0]; rw [if_pos (by omega), if_pos (by omega), if_pos (by omega), rdS_get l i hlt]
    by_cases hc : a.toList = l[i].toList
    · rw [if_pos hc, place_hit l a i hlt ht hc]
    · rw [if_neg hc, wr (by omega) (by omega)]
      have e : ((i : Int) + 1) = ((i + 1 : Nat) : Int) := by omega
      rw [e]
      refine ih k (i + 1) (by omega) (by omega) (by omega) ?_
      rw [has_take l a i hlt, ht, Bool.false_or, beq_eq_false_iff_ne]
      exact hc
theorem sIndex_eq (l : List ByteArray) (hl : l.length ≤ 1048576) (a : ByteArray) (k : Nat) (hk : l.length < k) : slices_Index_string_string.f k l a = some (placeN l a) := by
  unfold slices_Index_string_string.f
  exact sIndex_l0 l hl a l.length k 0 (by omega) (by omega) hk (by simp [has])
theorem place_has (l : List ByteArray) (a : ByteArray) : decide (placeN l a ≥ 0) = has l a := by
  by_cases h : has l a = true
  · obtain ⟨x, hx, hb⟩ := List.any_eq_true.1 h
    unfold placeN
    cases hf : l.findIdx? (fun b => a.toList == b.toList) with
    | none =>
      have := List.findIdx?_eq_none_iff.1 hf x hx
      rw [hb] at this; cases this
    | some i => rw [h]; simp
  · rw [place_none l a ((Bool.not_eq_true _).mp h), (Bool.not_eq_true _).mp h]; decide
theorem sContains_eq (l : List ByteArray) (hl : l.length ≤ 1048576) (a : ByteArray) (k : Nat) (hk : l.length < k) : slices_Contains_string_string.f k l a = some (has l a) := by
  unfold slices_Contains_string_string.f
  rw [sIndex_eq l hl a k hk]
  simp only [Option.bind_some]
  rw [place_has]
theorem place_self (l : List ByteArray) (i : Nat) (hi : i < l.length) : (placeN l l[i] = (i : Int)) ↔ has (l.take i) l[i] = false := by
  constructor
  · intro h
    by_cases hc : has (l.take i) l[i] = true
    · exfalso
      obtain ⟨x, hx, hb⟩ := List.any_eq_true.1 hc
      obtain ⟨j, hj, rfl⟩ := List.getElem_of_mem hx
      rw [List.length_take] at hj
      unfold placeN at h
      cases hf : l.findIdx? (fun b => l[i].toList == b.toList) with
      | none => rw [hf] at h; simp at h
      | some m =>
        rw [hf] at h
        have hm : m = i := by
          have h' : (m : Int) = (i : Int) := h
          omega
        subst hm
        have := (List.findIdx?_eq_some_iff_getElem.1 hf).2.2 j (by omega)
        rw [List.getElem_take] at hb
        exact this hb
    · exact (Bool.not_eq_true _).mp hc
  · intro h
    exact place_hit l l[i] i hi h rfl
theorem l2Table_l0 (l : List ByteArray) (hl : l.length ≤ 1048576) (hs : ∀ s ∈ l, s.size ≤ 1048576) (M : Nat) (hM : l.length + 2097160 ≤ M) (d : Nat) : ∀ (k i : Nat), i ≤ l.length → l.length - i = d → M + d < k → spec_l2Table.l0 k (i : Int) l = some (goodT (l.take i) (l.drop i)) := by
  induction d with
  | zero =>
    intro k i hi hd hk
    obtain ⟨k, rfl⟩ := pred_of_lt hk
    simp only [spec_l2Table.l0]; rw [if_neg (by omega), List.drop_eq_nil_of_le (by omega)]
    simp [goodT]
  | succ d ih =>
    intro k i hi hd hk
    obtain ⟨k, rfl⟩ := pred_of_lt hk
    have hlt : i < l.length := by omega
    have hz := hs _ (List.getElem_mem hlt)
    rw [drop_cons l i hlt]
    simp only [spec_l2Table.l0]; rw [if_pos (by omega), if_pos (by omega), rdS_get l i hlt, l2Marks_eq _ hz 1 5 k (by omega), l2Place_eq l hl _ k (by omega)]
    simp only [Option.bind_some, goodT]
    by_cases h1 : isMk l[i] 1 5 = true
    · rw [if_pos h1, h1, Bool.true_and]
      by_cases h2 : placeN l l[i] = (i : Int)
      · rw [if_pos h2, (place_self l i hlt).1 h2, wr (by omega) (by omega)]
        have e : ((i : Int) + 1) = ((i + 1 : Nat) : Int) := by omega
        rw [e, ih k (i + 1) (by omega) (by omega) (by omega), take_snoc l i hlt]
        simp
      · rw [if_neg h2]
        have : has (l.take i) l[i] = true := by
          by_cases hc : has (l.take i) l[i] = true
          · exact hc
          · exact absurd ((place_self l i hlt).2 ((Bool.not_eq_true _).mp hc)) h2
        rw [this]; simp
    · rw [if_neg h1, (Bool.not_eq_true _).mp h1]; simp
theorem l2Table_eq (l : List ByteArray) (hl : l.length ≤ 1048576) (hs : ∀ s ∈ l, s.size ≤ 1048576) (k : Nat) (hk : 4194400 ≤ k) : spec_l2Table.f k l = some (isTab l) := by
  unfold spec_l2Table.f
  rw [l1In_eq]
  simp only [Option.bind_some]
  by_cases h : (decide (1 ≤ (l.length : Int)) && decide ((l.length : Int) ≤ 10)) = true
  · rw [if_pos h]
    have h10 : l.length ≤ 10 := by simp only [Bool.and_eq_true, decide_eq_true_eq] at h; omega
    have := l2Table_l0 l hl hs (l.length + 2097160) (by omega) l.length k 0 (by omega) (by omega) (by omega)
    rw [List.take_zero, List.drop_zero] at this
    simp only [isTab, h, Bool.true_and]
    exact this
  · rw [if_neg h]; simp only [isTab, (Bool.not_eq_true _).mp h, Bool.false_and]
theorem isLetterMarks_eq (s : ByteArray) (hs : s.size ≤ 1048576) : impl_isLetterMarks.f s = some (isMk s 1 5) := by
  unfold impl_isLetterMarks.f
  rw [areMarks_eq s hs]; rfl
theorem isTable_l0 (l : List ByteArray) (hl : l.length ≤ 1048576) (hs : ∀ s ∈ l, s.size ≤ 1048576) (d : Nat) : ∀ (k i : Nat), i ≤ l.length → l.length - i = d → l.length + d < k →
    impl_isTable.l0 k l (l.length : Int) (i : Int) l = some (goodT (l.take i) (l.drop i) && (decide (1 ≤ (l.length : Int)) && decide ((l.length : Int) ≤ 10))) := by
  induction d with
  | zero =>
    intro k i hi hd hk
    obtain ⟨k, rfl⟩ := pred_of_lt hk
    simp only [impl_isTable.l0]; rw [if_neg (by omega), List.drop_eq_nil_of_le (by omega), in_eq]
    simp [goodT]
  | succ d ih =>
    intro k i hi hd hk
    obtain ⟨k, rfl⟩ := pred_of_lt hk
    have hlt : i < l.length := by omega
    have hz := hs _ (List.getElem_mem hlt)
    have c1 : (i : Int) ≤ (l.length : Int) := by omega
    rw [drop_cons l i hlt]
    simp only [impl_isTable.l0]; rw [if_pos (by omega), if_pos (by omega), if_pos (by omega), rdS_get l i hlt, isLetterMarks_eq _ hz]
    simp only [Option.bind_some, goodT]
    by_cases h1 : isMk l[i] 1 5 = true
    · rw [if_pos h1, h1, Bool.true_and, if_pos c1, Int.toNat_natCast, sContains_eq _ (by rw [List.length_take]; omega) _ k (by rw [List.length_take]; omega)]
      simp only [Option.bind_some]
      by_cases h2 : has (l.take i) l[i] = true
      · rw [if_pos h2, h2]; simp
      · rw [if_neg h2, (Bool.not_eq_true _).mp h2, wr (by omega) (by omega)]
        have e : ((i : Int) + 1) = ((i + 1 : Nat) : Int) := by omega
        rw [e, ih k (i + 1) (by omega) (by omega) (by omega), take_snoc l i hlt]
        simp
    · rw [if_neg h1, (Bool.not_eq_true _).mp h1]; simp
theorem isTable_eq (l : List ByteArray) (hl : l.length ≤ 1048576) (hs : ∀ s ∈ l, s.size ≤ 1048576) (k : Nat) (hk : 4194400 ≤ k) : impl_isTable.f k l = some (isTab l) := by
  unfold impl_isTable.f
  have := isTable_l0 l hl hs l.length k 0 (by omega) (by omega) (by omega)
  rw [List.take_zero, List.drop_zero] at this
  rw [show isTab l = (goodT [] l && (decide (1 ≤ (l.length : Int)) && decide ((l.length : Int) ≤ 10))) from Bool.and_comm _ _]
  exact this
/-! in how many ways marks fall into letters, counted alike by both sides (in 64 bits) -/
def fits (s c : ByteArray) (i : Nat) : Bool := decide (i + c.size ≤ s.size) && (s.extract i (i + c.size)).toList == c.toList
theorem stands_eq (s c : ByteArray) (i : Nat) (hs : s.size ≤ 1048576) (hc : c.size ≤ 1048576) (hi : i ≤ s.size) : spec_l3Stands.f s c (i : Int) = some (fits s c i) := by
  have e : wrap64 ((i : Int) + (c.size : Int)) = ((i + c.size : Nat) : Int) := by rw [wr (by omega) (by omega)]; omega
  simp only [spec_l3Stands.f, e, fits]
  by_cases h : i + c.size ≤ s.size
  · rw [if_pos (by omega), if_pos (by omega), if_pos (by omega)]
    simp only [h, decide_true, Bool.true_and, Int.toNat_natCast]
  · rw [if_neg (by omega)]
    simp only [h, decide_false, Bool.false_and]
def isRd (l : List ByteArray) (s : ByteArray) : Bool := isTab l && isMk s 0 40
theorem l3Good_eq (l : List ByteArray) (hl : l.length ≤ 1048576) (hc : ∀ c ∈ l, c.size ≤ 1048576) (s : ByteArray) (hs : s.size ≤ 1048576) (k : Nat) (hk : 4194400 ≤ k) : spec_l3Good.f k l s = some (isRd l s) := by
  unfold spec_l3Good.f spec_l3Bare.f isRd
  rw [l2Table_eq l hl hc k hk, l2Marks_eq s hs 0 40 k (by omega)]
  cases isTab l <;> rfl
theorem isRead_eq (l : List ByteArray) (hl : l.length ≤ 1048576) (hc : ∀ c ∈ l, c.size ≤ 1048576) (s : ByteArray) (hs : s.size ≤ 1048576) (k : Nat) (hk : 4194400 ≤ k) : impl_isRead.f k l s = some (isRd l s) := by
  unfold impl_isRead.f impl_IsBare.f isRd
  rw [isTable_eq l hl hc k hk, areMarks_eq s hs 0 40]
  cases isTab l <;> rfl
/-- no two letters of a table that stand at one place are equally long -/
theorem goodT_mem : ∀ (l seen : List ByteArray), goodT seen l = true → (∀ c ∈ l, 1 ≤ c.size ∧ c.size ≤ 5 ∧ ∀ b ∈ seen, c ≠ b) ∧ l.Nodup
  | [], _, _ => ⟨fun c h => absurd h (by simp), List.nodup_nil⟩
  | a :: t, seen, h => by
    simp only [goodT, Bool.and_eq_true, Bool.not_eq_true'] at h
    obtain ⟨h1, h2, h3⟩ := h
    obtain ⟨i1, i2⟩ := goodT_mem t (seen ++ [a]) h3
    refine ⟨fun c hc => ?_, ?_⟩
    · rcases List.mem_cons.1 hc with rfl | hc
      · simp only [isMk, Bool.and_eq_true, decide_eq_true_eq] at h1
        refine ⟨by omega, by omega, fun b hb e => ?_⟩
        have := List.any_eq_false.1 h2 b hb
        rw [e] at this; simp at this
      · obtain ⟨a1, a2, a3⟩ := i1 c hc
        exact ⟨a1, a2, fun b hb => a3 b (by simp [hb])⟩
    · rw [List.nodup_cons]
      exact ⟨fun hm => (i1 a hm).2.2 a (by simp) rfl, i2⟩
theorem isTab_mem (l : List ByteArray) (h : isTab l = true) : (∀ c ∈ l, 1 ≤ c.size ∧ c.size ≤ 5) ∧ l.Nodup ∧ 1 ≤ l.length ∧ l.length ≤ 10 := by
  simp only [isTab, Bool.and_eq_true, decide_eq_true_eq] at h
  obtain ⟨h1, h2⟩ := goodT_mem l [] h.2
  exact ⟨fun c hc => ⟨(h1 c hc).1, (h1 c hc).2.1⟩, h2, by omega, by omega⟩
/-! the best reading, reckoned alike by both sides -/
def lt (p : Int) : ByteArray := strOfNums [(wrap64 (97 + p)) % 256]
theorem lt_size (p : Int) : (lt p).size = 1 := rfl
abbrev bFits := impl_bestReading.fits
theorem bfits (s c : ByteArray) (i : Nat) : impl_bestReading.fits s c i = fits s c i := rfl
theorem fits_le' (s c : ByteArray) (i : Nat) (h : fits s c i = true) : i + c.size ≤ s.size := by
  simp only [fits, Bool.and_eq_true, decide_eq_true_eq] at h
  exact h.1
theorem rd_getD (x : List Int) (i : Nat) : rd x (i : Int) = x.getD i 0 := rd_nat x i
def bet (most : Bool) (a b : Int) : Bool := if most = true then decide (a > b) else decide (a < b)
def ubest (most : Bool) (s : ByteArray) (i : Nat) (c : ByteArray) (x : List Int) : List Int :=
  if fits s c i = true then (if x.getD (i + c.size) 0 < 0 then x else (if x.getD i 0 < 0 then x.set i (wrap64 (x.getD (i + c.size) 0 + 1)) else (if bet most (wrap64 (x.getD (i + c.size) 0 + 1)) (x.getD i 0) = true then x.set i (wrap64 (x.getD (i + c.size) 0 + 1)) else x))) else x
theorem better_eq (a b : Int) : impl_bestReading.better a b = bet false a b := by
  unfold impl_bestReading.better impl_ShortestReading_1.f bet
  simp
theorem upd_eq (s : ByteArray) (i : Nat) (c : ByteArray) (x : List Int) : impl_bestReading.upd s i c x = ubest false s i c x := by
  unfold impl_bestReading.upd ubest
  simp only [bfits, better_eq]
def ibest (most : Bool) (s : ByteArray) (i : Nat) (l : List ByteArray) (x : List Int) : List Int := l.foldl (fun x c => ubest most s i c x) x
theorem inn_eq (s : ByteArray) (i : Nat) : ∀ (l : List ByteArray) (x : List Int), impl_bestReading.inn s i l x = ibest false s i l x
  | [], x => rfl
  | c :: l, x => by
    rw [impl_bestReading.inn, upd_eq, inn_eq s i l]; rfl
theorem ubest_len (most : Bool) (s : ByteArray) (i : Nat) (c : ByteArray) (x : List Int) : (ubest most s i c x).length = x.length := by
  unfold ubest
  by_cases hf : fits s c i = true
  · rw [if_pos hf]
    split
    · rfl
    · split
      · rw [List.length_set]
      · generalize bet most (wrap64 (x.getD (i + c.size) 0 + 1)) (x.getD i 0) = b
        cases b
        · rw [if_neg (by simp)]
        · rw [if_pos rfl, List.length_set]
  · rw [if_neg hf]
theorem ibest_len (most : Bool) (s : ByteArray) (i : Nat) : ∀ (l : List ByteArray) (x : List Int), (ibest most s i l x).length = x.length
  | [], x => rfl
  | c :: l, x => by
    show (ibest most s i l (ubest most s i c x)).length = _
    rw [ibest_len most s i l, ubest_len]
theorem ibest_drop (most : Bool) (s : ByteArray) (i : Nat) (l : List ByteArray) (j : Nat) (h : j < l.length) (x : List Int) : ibest most s i (l.drop j) x = ibest most s i (l.drop (j + 1)) (ubest most s i l[j] x) := by
  rw [List.drop_eq_getElem_cons h]; rfl
theorem getD_set (x : List Int) (i j : Nat) (v : Int) : (x.set i v).getD j 0 = if i = j ∧ j < x.length then v else x.getD j 0 := by
  rw [List.getD_eq_getElem?_getD, List.getD_eq_getElem?_getD, List.getElem?_set]
  by_cases h : i = j
  · subst h
    by_cases h2 : i < x.length
    · simp [h2]
    · simp [h2]
  · simp [h]
/-! the reference's loops -/
def sBest (most : Bool) (s : ByteArray) (l : List ByteArray) : Nat → List Int → List Int
  | 0, y => y
  | i + 1, y => sBest most s l i (ibest most s i l (y.set i (-1)))
theorem sC_l1 (most : Bool) (s : ByteArray) (hs : s.size ≤ 1048576) (l : List ByteArray) (hl : l.length ≤ 1048576) (hc : ∀ c ∈ l, c.size ≤ 1048576) (i : Nat) (hi : i < s.size) (k d : Nat) : ∀ (m j : Nat) (x : List Int), m = k + 2 * d + 1 → j ≤ l.length → l.length - j = d → x.length = s.size + 1 →
    spec_l3Counts.l1 m s most x (i : Int) (j : Int) l = spec_l3Counts.l0 k s most (ibest most s i (l.drop j) x) ((i : Int) - 1) l := by
  induction d with
  | zero =>
    intro m j x hm hj hd hx
    obtain rfl : m = k + 1 := by omega
    have e : wrap64 ((i : Int) - 1) = (i : Int) - 1 := by rw [wr (by omega) (by omega)]
    rw [List.drop_eq_nil_of_le (by omega)]
    simp only [spec_l3Counts.l1, e]; clear e; rw [if_neg (by omega)]; rfl
  | succ d ih =>
    intro m j x hm hj hd hx
    obtain ⟨m, rfl⟩ : ∃ m', m = m' + 1 + 1 := ⟨k + 2 * d + 1, by omega⟩
    have hm2 : m = k + 2 * d + 1 := by omega
    have hlt : j < l.length := by omega
    obtain ⟨c, hcj, hget, hdrop⟩ : ∃ c : ByteArray, c.size ≤ 1048576 ∧ rdOf ByteArray.empty l (j : Int) = c ∧ ibest most s i (l.drop j) x = ibest most s i (l.drop (j + 1)) (ubest most s i c x) := ⟨l[j], hc _ (List.getElem_mem hlt), rdS_get l j hlt, ibest_drop most s i l j hlt x⟩
    have n := ih m (j + 1) (ubest most s i c x) hm2 hlt (by rw [Nat.sub_add_eq, hd]; rfl) ((ubest_len most s i c x).trans hx)
    have c1 : (j : Int) < (l.length : Int) := by omega
    have c2 : (0 : Int) ≤ (j : Int) := by omega
    have c3 : (0 : Int) ≤ (i : Int) := by omega
    have c4 : (i : Int) < (x.length : Int) := by omega
    have hi' : i ≤ s.size := by omega
    have e1 : wrap64 ((j : Int) + 1) = ((j + 1 : Nat) : Int) := by rw [wr (by omega) (by omega)]; omega
    have e2 : wrap64 ((i : Int) + (c.size : Int)) = ((i + c.size : Nat) : Int) := by clear e1; rw [wr (by omega) (by omega)]; omega
    rw [hdrop]
    clear ih hdrop hm hm2
    simp only [spec_l3Counts.l1, c1, c2, if_true, hget, stands_eq s c i hs hcj hi', Option.bind_some, e1, e2]
    by_cases hf : fits s c i = true
    · have hle := fits_le' s c i hf
      have k0 : (0 : Int) ≤ ((i + c.size : Nat) : Int) := by omega
      have k1 : ((i + c.size : Nat) : Int) < (x.length : Int) := by omega
      rw [if_pos hf, if_pos k0, if_pos k1]
      simp only [spec_l3Counts.j2, c1, c2, c3, c4, k0, k1, if_true, hget, e1, e2, rd_getD, Int.toNat_natCast]
      clear e1 e2
      unfold ubest at n ⊢
      rw [if_pos hf] at n ⊢
      by_cases hp : x.getD (i + c.size) 0 < 0
      · rw [if_pos hp] at n ⊢
        rw [if_pos (by simp only [hp, decide_true]), n]
      · rw [if_neg hp] at n ⊢
        rw [if_neg (by simp only [hp, decide_false]; simp)]
        by_cases hq : x.getD i 0 < 0
        · rw [if_pos hq] at n ⊢
          rw [if_pos hq, n]
        · rw [if_neg hq] at n ⊢
          rw [if_neg hq]
          cases most with
          | true =>
            simp only [bet, if_true, decide_eq_true_eq] at n ⊢
            by_cases hb : wrap64 (x.getD (i + c.size) 0 + 1) > x.getD i 0
            · rw [if_pos hb] at n ⊢
              rw [if_pos hb, n]
            · rw [if_neg hb] at n ⊢
              rw [if_neg hb, n]
          | false =>
            simp only [bet, Bool.false_eq_true, if_false, decide_eq_true_eq] at n ⊢
            by_cases hb : wrap64 (x.getD (i + c.size) 0 + 1) < x.getD i 0
            · rw [if_pos hb] at n ⊢
              rw [if_pos hb, n]
            · rw [if_neg hb] at n ⊢
              rw [if_neg hb, n]
    · rw [if_neg hf]
      simp only [spec_l3Counts.j2, if_true, e1]
      clear e1 e2
      unfold ubest at n ⊢
      rw [if_neg hf] at n ⊢
      exact n
theorem best_fuel (L k i : Nat) : k + (i + 1) * (2 * L + 2) + 1 = (k + i * (2 * L + 2) + 1) + 2 * L + 1 + 1 := by rw [Nat.succ_mul]; omega
theorem sC_l0 (most : Bool) (s : ByteArray) (hs : s.size ≤ 1048576) (l : List ByteArray) (hl : l.length ≤ 1048576) (hc : ∀ c ∈ l, c.size ≤ 1048576) (k : Nat) : ∀ (i : Nat) (x : List Int), i ≤ s.size → x.length = s.size + 1 →
    spec_l3Counts.l0 (k + i * (2 * l.length + 2) + 1) s most x ((i : Int) - 1) l = some (sBest most s l i x)
  | 0, x, hi, hx => by
    simp only [spec_l3Counts.l0]; rw [if_neg (by omega)]; rfl
  | i + 1, x, hi, hx => by
    have ih := sC_l0 most s hs l hl hc k i (ibest most s i l (x.set i (-1))) (by omega) (by rw [ibest_len, List.length_set]; exact hx)
    have st := sC_l1 most s hs l hl hc i (by omega) (k + i * (2 * l.length + 2) + 1) l.length _ 0 (x.set i (-1)) rfl (by omega) (by omega) (by rw [List.length_set]; exact hx)
    rw [List.drop_zero, ih, Int.natCast_zero] at st
    rw [best_fuel, show ((i + 1 : Nat) : Int) - 1 = (i : Int) by omega]
    simp only [spec_l3Counts.l0]
    rw [if_pos (by omega), if_pos (by omega), if_pos (by omega), Int.toNat_natCast, st]; rfl
def bfuel (l : List ByteArray) (s : ByteArray) : Nat := s.size * (2 * l.length + 2) + 1
def sCnt (most : Bool) (l : List ByteArray) (s : ByteArray) : List Int := sBest most s l s.size (List.replicate (s.size + 1) 0)
theorem l3Counts_eq (most : Bool) (l : List ByteArray) (hl : l.length ≤ 1048576) (hc : ∀ c ∈ l, c.size ≤ 1048576) (s : ByteArray) (hs : s.size ≤ 1048576) (k : Nat) (hk : bfuel l s ≤ k) : spec_l3Counts.f k l s most = some (sCnt most l s) := by
  obtain ⟨m, rfl⟩ : ∃ m, k = m + s.size * (2 * l.length + 2) + 1 := ⟨k - bfuel l s, by unfold bfuel at *; omega⟩
  have e : wrap64 ((s.size : Int) + 1) = ((s.size + 1 : Nat) : Int) := by rw [wr (by omega) (by omega)]; omega
  have e2 : wrap64 ((s.size : Int) - 1) = (s.size : Int) - 1 := by clear e; rw [wr (by omega) (by omega)]
  simp only [spec_l3Counts.f, e, e2, Int.toNat_natCast]
  clear e e2
  rw [if_pos (by omega), if_pos (by omega)]
  exact sC_l0 most s hs l hl hc m s.size _ (Nat.le_refl _) (by simp)
/-! the counts of both are the same, and each good one goes on by a letter -/
theorem ubest_same (most : Bool) (s : ByteArray) (i : Nat) (c : ByteArray) (x y : List Int) (hlen : x.length = y.length) (h : ∀ j, i ≤ j → x.getD j 0 = y.getD j 0) : ∀ j, i ≤ j → (ubest most s i c x).getD j 0 = (ubest most s i c y).getD j 0 := by
  intro j hj
  have h1 := h (i + c.size) (by omega)
  have h2 := h i (Nat.le_refl _)
  unfold ubest
  rw [h1, h2]
  split
  · split
    · exact h j hj
    · split
      · rw [getD_set, getD_set, hlen, h j hj]
      · split
        · rw [getD_set, getD_set, hlen, h j hj]
        · exact h j hj
  · exact h j hj
theorem ibest_same (most : Bool) (s : ByteArray) (i : Nat) : ∀ (l : List ByteArray) (x y : List Int), x.length = y.length → (∀ j, i ≤ j → x.getD j 0 = y.getD j 0) → ∀ j, i ≤ j → (ibest most s i l x).getD j 0 = (ibest most s i l y).getD j 0
  | [], x, y, _, h => h
  | c :: l, x, y, hl, h => ibest_same most s i l (ubest most s i c x) (ubest most s i c y) (by rw [ubest_len, ubest_len, hl]) (ubest_same most s i c x y hl h)
theorem ubest_low (most : Bool) (s : ByteArray) (i : Nat) (c : ByteArray) (x : List Int) (j : Nat) (hj : j < i) : (ubest most s i c x).getD j 0 = x.getD j 0 := by
  unfold ubest
  split
  · split
    · rfl
    · split
      · rw [getD_set, if_neg (by omega)]
      · split
        · rw [getD_set, if_neg (by omega)]
        · rfl
  · rfl
theorem ibest_low (most : Bool) (s : ByteArray) (i : Nat) : ∀ (l : List ByteArray) (x : List Int) (j : Nat), j < i → (ibest most s i l x).getD j 0 = x.getD j 0
  | [], x, j, _ => rfl
  | c :: l, x, j, hj => by
    show (ibest most s i l (ubest most s i c x)).getD j 0 = _
    rw [ibest_low most s i l _ j hj, ubest_low most s i c x j hj]
theorem out_same (s : ByteArray) (l : List ByteArray) : ∀ (i : Nat) (x y : List Int), x.length = y.length → i ≤ x.length → (∀ j, i ≤ j → x.getD j 0 = y.getD j 0) → (∀ j, j < i → x.getD j 0 = -1) → impl_bestReading.out s l i x = sBest false s l i y
  | 0, x, y, hl, _, h, _ => by
    show x = y
    refine List.ext_getElem? fun j => ?_
    have := h j (Nat.zero_le _)
    by_cases hj : j < x.length
    · rw [List.getD_eq_getElem?_getD, List.getD_eq_getElem?_getD, List.getElem?_eq_getElem hj, List.getElem?_eq_getElem (by omega)] at this
      rw [List.getElem?_eq_getElem hj, List.getElem?_eq_getElem (by omega)]
      exact congrArg some this
    · rw [List.getElem?_eq_none (by omega), List.getElem?_eq_none (by omega)]
  | i + 1, x, y, hl, hi, h, hm => by
    have hy : ∀ j, i ≤ j → x.getD j 0 = (y.set i (-1)).getD j 0 := fun j hj => by
      rw [getD_set]
      by_cases e : i = j
      · subst e; rw [if_pos ⟨rfl, by omega⟩]; exact hm i (by omega)
      · rw [if_neg (by omega)]; exact h j (by omega)
    rw [impl_bestReading.out, inn_eq, sBest]
    refine out_same s l i _ _ (by rw [ibest_len, ibest_len, List.length_set, hl]) (by rw [ibest_len]; omega) (ibest_same false s i l x _ (by rw [List.length_set]; exact hl) hy) (fun j hj => ?_)
    rw [ibest_low false s i l x j hj]
    exact hm j (by omega)
theorem counts_same (l : List ByteArray) (s : ByteArray) : impl_bestReading.counts l s = sCnt false l s := by
  unfold impl_bestReading.counts sCnt
  have g : ∀ (v : Int) (j : Nat), j < s.size + 1 → (List.replicate (s.size + 1) v).getD j 0 = v := fun v j hj => by
    rw [List.getD_eq_getElem?_getD, List.getElem?_replicate, if_pos hj]; rfl
  refine out_same s l s.size _ _ (by simp) (by simp) (fun j hj => ?_) (fun j hj => ?_)
  · rw [getD_set]
    by_cases e : s.size = j
    · subst e
      rw [if_pos ⟨rfl, by simp⟩, g 0 s.size (by omega)]
    · rw [if_neg (fun q => e q.1), List.getD_eq_getElem?_getD, List.getD_eq_getElem?_getD, List.getElem?_eq_none (by simp; omega), List.getElem?_eq_none (by simp; omega)]
  · rw [getD_set, if_neg (by omega)]
    exact g (-1) j (by omega)
/-- what each count says -/
def good1 (l : List ByteArray) (s : ByteArray) (x : List Int) (j : Nat) : Prop :=
  x.getD j 0 = -1 ∨ (1 ≤ x.getD j 0 ∧ x.getD j 0 ≤ ((s.size - j : Nat) : Int) ∧ ∃ c ∈ l, fits s c j = true ∧ x.getD (j + c.size) 0 = x.getD j 0 - 1)
theorem ubest_good (most : Bool) (l : List ByteArray) (s : ByteArray) (hs : s.size ≤ 1000) (hl : ∀ c ∈ l, 1 ≤ c.size) (i : Nat) (hi : i < s.size) (c : ByteArray) (hc : c ∈ l) (x : List Int) (hx : x.length = s.size + 1) (hn : x.getD s.size 0 = 0) (hg : ∀ j, i ≤ j → j < s.size → good1 l s x j) :
    (ubest most s i c x).getD s.size 0 = 0 ∧ ∀ j, i ≤ j → j < s.size → good1 l s (ubest most s i c x) j := by
  have put : ∀ v : Int, fits s c i = true → ¬ (x.getD (i + c.size) 0 < 0) → v = wrap64 (x.getD (i + c.size) 0 + 1) → (x.set i v).getD s.size 0 = 0 ∧ ∀ j, i ≤ j → j < s.size → good1 l s (x.set i v) j := by
    intro v hf hp hv
    have hle := fits_le' s c i hf
    have hc1 := hl c hc
    have hb : 0 ≤ x.getD (i + c.size) 0 ∧ x.getD (i + c.size) 0 ≤ ((s.size - (i + c.size) : Nat) : Int) := by
      by_cases e : i + c.size = s.size
      · rw [e, hn]; omega
      · rcases hg (i + c.size) (by omega) (by omega) with g | ⟨g1, g2, _⟩
        · omega
        · exact ⟨by omega, g2⟩
    have hv2 : v = x.getD (i + c.size) 0 + 1 := by rw [hv, wr (by omega) (by omega)]
    refine ⟨by rw [getD_set, if_neg (by omega)]; exact hn, fun j h1 h2 => ?_⟩
    by_cases e : i = j
    · subst e
      right
      have e1 : (x.set i v).getD i 0 = v := by rw [getD_set, if_pos ⟨rfl, by omega⟩]
      have e2 : (x.set i v).getD (i + c.size) 0 = x.getD (i + c.size) 0 := by rw [getD_set, if_neg (by omega)]
      rw [e1]
      exact ⟨by omega, by omega, c, hc, hf, by rw [e2]; omega⟩
    · have e0 : ∀ t, j ≤ t → (x.set i v).getD t 0 = x.getD t 0 := fun t ht => by rw [getD_set, if_neg (by omega)]
      rcases hg j h1 h2 with g | ⟨g1, g2, c2, g3, g4, g5⟩
      · left; rw [e0 j (Nat.le_refl _)]; exact g
      · right
        rw [e0 j (Nat.le_refl _)]
        exact ⟨g1, g2, c2, g3, g4, by rw [e0 _ (by omega)]; exact g5⟩
  unfold ubest
  split
  · rename_i hf
    split
    · exact ⟨hn, hg⟩
    · rename_i hp
      split
      · exact put _ hf hp rfl
      · split
        · exact put _ hf hp rfl
        · exact ⟨hn, hg⟩
  · exact ⟨hn, hg⟩
theorem ibest_good (most : Bool) (l : List ByteArray) (s : ByteArray) (hs : s.size ≤ 1000) (hl : ∀ c ∈ l, 1 ≤ c.size) (i : Nat) (hi : i < s.size) : ∀ (t : List ByteArray), (∀ c ∈ t, c ∈ l) → ∀ (x : List Int), x.length = s.size + 1 → x.getD s.size 0 = 0 → (∀ j, i ≤ j → j < s.size → good1 l s x j) →
    (ibest most s i t x).getD s.size 0 = 0 ∧ ∀ j, i ≤ j → j < s.size → good1 l s (ibest most s i t x) j
  | [], _, x, _, hn, hg => ⟨hn, hg⟩
  | c :: t, ht, x, hx, hn, hg => by
    obtain ⟨a, b⟩ := ubest_good most l s hs hl i hi c (ht c (by simp)) x hx hn hg
    exact ibest_good most l s hs hl i hi t (fun d hd => ht d (by simp [hd])) _ (by rw [ubest_len]; exact hx) a b
theorem sBest_good (most : Bool) (l : List ByteArray) (s : ByteArray) (hs : s.size ≤ 1000) (hl : ∀ c ∈ l, 1 ≤ c.size) : ∀ (i : Nat) (y : List Int), i ≤ s.size → y.length = s.size + 1 → y.getD s.size 0 = 0 → (∀ j, i ≤ j → j < s.size → good1 l s y j) →
    (sBest most s l i y).length = s.size + 1 ∧ (sBest most s l i y).getD s.size 0 = 0 ∧ ∀ j, j < s.size → good1 l s (sBest most s l i y) j
  | 0, y, _, hy, hn, hg => ⟨hy, hn, fun j hj => hg j (Nat.zero_le _) hj⟩
  | i + 1, y, hi, hy, hn, hg => by
    have e0 : ∀ t, i + 1 ≤ t → (y.set i (-1)).getD t 0 = y.getD t 0 := fun t ht => by rw [getD_set, if_neg (by omega)]
    have st := ibest_good most l s hs hl i (by omega) l (fun c hc => hc) (y.set i (-1)) (by rw [List.length_set]; exact hy) (by rw [e0 _ (by omega)]; exact hn) (fun j h1 h2 => by
      by_cases e : i = j
      · subst e
        left
        rw [getD_set, if_pos ⟨rfl, by omega⟩]
      · rcases hg j (by omega) h2 with g | ⟨g1, g2, c2, g3, g4, g5⟩
        · left; rw [e0 j (by omega)]; exact g
        · right
          rw [e0 j (by omega)]
          exact ⟨g1, g2, c2, g3, g4, by rw [e0 _ (by omega)]; exact g5⟩)
    exact sBest_good most l s hs hl i _ (by omega) (by rw [ibest_len, List.length_set]; exact hy) st.1 st.2
theorem sCnt_good (most : Bool) (l : List ByteArray) (s : ByteArray) (hs : s.size ≤ 1000) (hl : ∀ c ∈ l, 1 ≤ c.size) : (sCnt most l s).length = s.size + 1 ∧ (sCnt most l s).getD s.size 0 = 0 ∧ ∀ j, j < s.size → good1 l s (sCnt most l s) j := by
  unfold sCnt
  refine sBest_good most l s hs hl s.size _ (Nat.le_refl _) (by simp) ?_ (fun j h1 h2 => by omega)
  rw [List.getD_eq_getElem?_getD, List.getElem?_replicate, if_pos (by omega)]; rfl
/-! the reading along the counts -/
theorem idx_first (p : ByteArray → Bool) : ∀ (l : List ByteArray) (k : Nat), (∃ c ∈ l, p c = true) → ∃ (j : Nat) (hj : j < l.length), impl_bestReading.idx p l k = ((k + j : Nat) : Int) ∧ p l[j] = true ∧ ∀ t (ht : t < j), p (l[t]'(by omega)) = false
  | [], k, h => by obtain ⟨c, hc, _⟩ := h; simp at hc
  | c :: l, k, h => by
    by_cases hc : p c = true
    · exact ⟨0, by simp, by simp [impl_bestReading.idx, hc], by simpa using hc, fun t ht => by omega⟩
    · have h2 : ∃ d ∈ l, p d = true := by
        obtain ⟨d, hd, hp⟩ := h
        rcases List.mem_cons.1 hd with rfl | hd
        · exact absurd hp hc
        · exact ⟨d, hd, hp⟩
      obtain ⟨j, hj, e1, e2, e3⟩ := idx_first p l (k + 1) h2
      refine ⟨j + 1, by simpa using hj, by simp [impl_bestReading.idx, hc]; rw [e1]; omega, by simpa using e2, fun t ht => ?_⟩
      cases t with
      | zero => simpa using hc
      | succ t => simpa using e3 t (by omega)
theorem sR_l1 (s : ByteArray) (hs : s.size ≤ 1000) (l : List ByteArray) (hl : l.length ≤ 1048576) (hc : ∀ c ∈ l, c.size ≤ 1048576) (x : List Int) (hx : x.length = s.size + 1) (i : Nat) (hi : i < s.size) (o : ByteArray) (ho : o.size ≤ i) (j' : Nat) (hj' : j' < l.length) (p : ByteArray → Bool) (hp : ∀ c ∈ l, p c = (fits s c i && (x.getD (i + c.size) 0 == wrap64 (x.getD i 0 - 1)))) (hit : p l[j'] = true) (miss : ∀ t (ht : t < j'), p (l[t]'(by omega)) = false) (d : Nat) :
    ∀ (k j : Nat), j ≤ j' → j' - j = d → spec_l3Reading.l1 (k + d + 1) s x o (i : Int) (j : Int) l = spec_l3Reading.l0 k s x (o ++ lt (j' : Int)) ((i + l[j'].size : Nat) : Int) l := by
  have one : ∀ (k j : Nat) (hlt : j < l.length), spec_l3Reading.l1 (k + 1) s x o (i : Int) (j : Int) l = if p l[j] = true then spec_l3Reading.l0 k s x (o ++ lt (j : Int)) ((i + l[j].size : Nat) : Int) l else spec_l3Reading.l1 k s x o (i : Int) ((j + 1 : Nat) : Int) l := by
    intro k j hlt
    obtain ⟨c, hcc, hcj, hget, hcm⟩ : ∃ c : ByteArray, l[j] = c ∧ c.size ≤ 1048576 ∧ rdOf ByteArray.empty l (j : Int) = c ∧ c ∈ l := ⟨l[j], rfl, hc _ (List.getElem_mem hlt), rdS_get l j hlt, List.getElem_mem hlt⟩
    rw [hcc, hp c hcm]
    clear hit miss hp
    have c1 : (j : Int) < (l.length : Int) := by omega
    have c2 : (0 : Int) ≤ (j : Int) := by omega
    have c3 : (0 : Int) ≤ (i : Int) := by omega
    have c4 : (i : Int) < (x.length : Int) := by omega
    have hst := stands_eq s c i (Nat.le_trans hs (by decide)) hcj (Nat.le_of_lt hi)
    have hlet : spec_l2Letter.f (j : Int) = some (lt (j : Int)) := rfl
    have hlz := lt_size (j : Int)
    have e1 : wrap64 ((j : Int) + 1) = ((j + 1 : Nat) : Int) := by rw [wr (by omega) (by omega)]; omega
    have e2 : wrap64 ((i : Int) + (c.size : Int)) = ((i + c.size : Nat) : Int) := by clear e1; rw [wr (by omega) (by omega)]; omega
    simp only [spec_l3Reading.l1, c1, c2, c3, c4, if_true, hget, hst, Option.bind_some, e1, e2, hlet]
    clear e1 e2 hlet
    by_cases hf : fits s c i = true
    · have hle := fits_le' s c i hf
      rw [if_pos hf, if_pos (by omega), if_pos (by omega), hf, Bool.true_and, rd_getD, rd_getD]
      by_cases he : x.getD (i + c.size) 0 = wrap64 (x.getD i 0 - 1)
      · rw [if_pos he, if_pos (by omega), if_pos (by rw [he]; simp)]
      · rw [if_neg he, if_neg (by simpa using he)]
    · rw [if_neg hf, (Bool.not_eq_true _).mp hf, Bool.false_and, if_neg (by simp)]
  induction d with
  | zero =>
    intro k j hj hd
    obtain rfl : j = j' := by omega
    rw [Nat.add_zero, one k j hj', if_pos hit]
  | succ d ih =>
    intro k j hj hd
    rw [show k + (d + 1) + 1 = (k + d + 1) + 1 by omega, one (k + d + 1) j (by omega), if_neg (by rw [miss j (by omega)]; simp)]
    exact ih k (j + 1) (by omega) (by omega)
theorem go_same (most : Bool) (l : List ByteArray) (hl1 : l.length ≤ 1000) (hc : ∀ c ∈ l, 1 ≤ c.size ∧ c.size ≤ 1048576) (s : ByteArray) (hs : s.size ≤ 1000) (x : List Int) (hx : x.length = s.size + 1) (hn : x.getD s.size 0 = 0) (hg : ∀ j, j < s.size → good1 l s x j) : ∀ (d i : Nat) (o : ByteArray), i ≤ s.size → s.size - i ≤ d → o.size ≤ i → 0 ≤ x.getD i 0 →
    ∃ R, (∀ k, d * (l.length + 1) < k → spec_l3Reading.l0 k s x o (i : Int) l = some (R, true)) ∧ (∀ k, d < k → impl_bestReading.go s l x k i o = some R) := by
  intro d
  induction d with
  | zero =>
    intro i o hi hd ho hp
    refine ⟨o, fun k hk => ?_, fun k hk => ?_⟩
    · obtain ⟨k, rfl⟩ := pred_of_lt hk
      simp only [spec_l3Reading.l0]; rw [if_neg (by omega)]
    · obtain ⟨k, rfl⟩ := pred_of_lt hk
      simp only [impl_bestReading.go]; rw [if_neg (by omega)]
  | succ d ih =>
    intro i o hi hd ho hp
    by_cases hlt : i < s.size
    · rcases hg i hlt with g | ⟨g1, g2, c0, g3, g4, g5⟩
      · omega
      · have hw : wrap64 (x.getD i 0 - 1) = x.getD i 0 - 1 := by rw [wr (by omega) (by omega)]
        have hp2 : ∀ c ∈ l, impl_bestReading.hit s x i c = (fits s c i && (x.getD (i + c.size) 0 == wrap64 (x.getD i 0 - 1))) := fun c _ => by
          unfold impl_bestReading.hit
          rw [bfits]
          by_cases he : x.getD (i + c.size) 0 = wrap64 (x.getD i 0 - 1)
          · have h0 : decide (0 ≤ x.getD (i + c.size) 0) = true := decide_eq_true (by rw [he, hw]; omega)
            rw [h0, Bool.and_true]
          · have : (x.getD (i + c.size) 0 == wrap64 (x.getD i 0 - 1)) = false := by simpa using he
            rw [this, Bool.and_false, Bool.false_and]
        obtain ⟨j, hj, e1, e2, e3⟩ := idx_first (impl_bestReading.hit s x i) l 0 ⟨c0, g3, by rw [hp2 c0 g3, g4, hw, Bool.true_and]; simpa using g5⟩
        rw [Nat.zero_add] at e1
        have hm := hp2 _ (List.getElem_mem hj)
        rw [e2] at hm
        have hm2 := hm.symm
        simp only [Bool.and_eq_true, beq_iff_eq] at hm2
        have hle := fits_le' _ _ _ hm2.1
        have hc1 := hc _ (List.getElem_mem hj)
        have hz : (o ++ lt (j : Int)).size ≤ i + l[j].size := by rw [ByteArray.size_append, lt_size]; omega
        obtain ⟨R, r1, r2⟩ := ih (i + l[j].size) (o ++ lt (j : Int)) hle (by omega) hz (by rw [hm2.2, hw]; omega)
        refine ⟨R, fun k hk => ?_, fun k hk => ?_⟩
        · rw [Nat.succ_mul] at hk
          obtain ⟨q, rfl⟩ : ∃ q, k = q + j + 1 + 1 := ⟨k - j - 2, by omega⟩
          have st := sR_l1 s hs l (by omega) (fun c hc' => (hc c hc').2) x hx i hlt o ho j hj (impl_bestReading.hit s x i) hp2 e2 e3 j q 0 (Nat.zero_le _) (by omega)
          rw [Int.natCast_zero] at st
          simp only [spec_l3Reading.l0]
          rw [if_pos (by omega), st]
          exact r1 q (by omega)
        · obtain ⟨k, rfl⟩ := pred_of_lt hk
          simp only [impl_bestReading.go, e1]
          rw [if_pos hlt, if_pos (by omega), Int.toNat_natCast, show l.getD j ByteArray.empty = l[j] from by rw [List.getD_eq_getElem?_getD, List.getElem?_eq_getElem hj]; rfl]
          exact r2 k (by omega)
    · refine ⟨o, fun k hk => ?_, fun k hk => ?_⟩
      · obtain ⟨k, rfl⟩ := pred_of_lt hk
        simp only [spec_l3Reading.l0]; rw [if_neg (by omega)]
      · obtain ⟨k, rfl⟩ := pred_of_lt hk
        simp only [impl_bestReading.go]; rw [if_neg hlt]
/-! a law whose function is handed a table, and answers something and a bool (its contract asks for no fuel) -/
theorem law_ShortestReading (l0 : List ByteArray) (a1 : ByteArray) (hsz : ¬ (a1.size : Int) > 1048576) (hl : l0.length ≤ maxLen) (hs : ∀ s ∈ l0, s.size ≤ maxLen) (K : Nat)
    (h : l0.length ≤ 1048576 → (∀ s ∈ l0, s.size ≤ 1048576) → ∃ R, ∀ k, K ≤ k → spec_ShortestReading.f k l0 a1 = some R ∧ impl_ShortestReading.f l0 a1 = some R) : ∃ k, laws_FnExactShortestReading.f k l0 a1 = some true := by
  skip
  obtain ⟨t, ht, hb⟩ := szTable_eq l0 hl hs
  by_cases h0 : t < 0
  · refine ⟨l0.length + 1, ?_⟩
    unfold laws_FnExactShortestReading.f
    simp only [ht (l0.length + 1) (by omega), Option.bind_some, h0, if_true, if_false, ite_self, hsz]
  · obtain ⟨h1, h2⟩ := hb (by omega)
    obtain ⟨R, hR⟩ := h h1 h2
    obtain ⟨M, hM⟩ : ∃ M : Nat, K ≤ M ∧ 4194400 ≤ M := ⟨K + 4194400, by omega, by omega⟩
    refine ⟨M + 1, ?_⟩
    have r := hR (M + 1) (by omega)
    unfold laws_FnExactShortestReading.f
    simp only [ht (M + 1) (by omega), Option.bind_some, h0, if_false, hsz]
    simp only [toTable_eq l0 h1 (M + 1) (by omega), r.1, r.2, Option.bind_some, bne_self_eq_false, Bool.false_eq_true, if_false, if_true]
    simp only [laws_FnExactShortestReading.j0, toTable_eq l0 h1 (M) (by omega), eqTable_self l0 h1 (M) (by omega), Option.bind_some, Bool.false_eq_true, if_false, if_true]
theorem good_eq (l : List ByteArray) (s : ByteArray) (ht : isTab l = true) (hs : s.size ≤ 40) : impl_bestReading.good l s = true := by
  obtain ⟨hm, _, h1, h10⟩ := isTab_mem l ht
  unfold impl_bestReading.good
  simp only [Bool.and_eq_true, decide_eq_true_eq, List.all_eq_true]
  exact ⟨⟨⟨by omega, by omega⟩, by omega⟩, fun c hc => ⟨by have := hm c hc; omega, by have := hm c hc; omega⟩⟩
theorem FnExactShortestReading : laws_FnExactShortestReading.Pure := by
  intro l a1 hl hs _
  by_cases hsz : (a1.size : Int) > 1048576
  · refine ⟨0, ?_⟩
    unfold laws_FnExactShortestReading.f
    rw [if_pos hsz]
  refine law_ShortestReading l a1 hsz hl hs 4200000 fun h1 h2 => ?_
  have ha : a1.size ≤ 1048576 := by omega
  have g2 := isRead_eq l h1 h2 a1 ha 5000000 (by omega)
  by_cases hr : isRd l a1 = true
  · have hr2 := hr
    unfold isRd at hr2
    rw [Bool.and_eq_true] at hr2
    obtain ⟨ht, hm⟩ := hr2
    have h40 : a1.size ≤ 40 := by
      simp only [isMk, Bool.and_eq_true, decide_eq_true_eq] at hm; omega
    obtain ⟨hmem, _, hl1, hl10⟩ := isTab_mem l ht
    have hbf : bfuel l a1 ≤ 40 * 22 + 1 := by
      unfold bfuel
      have : a1.size * (2 * l.length + 2) ≤ 40 * 22 := Nat.mul_le_mul h40 (by omega)
      omega
    obtain ⟨c1, c2, c3⟩ := sCnt_good false l a1 (by omega) (fun c hc => (hmem c hc).1)
    have hgd := good_eq l a1 ht h40
    by_cases h0 : (sCnt false l a1).getD 0 0 < 0
    · refine ⟨(⟨#[]⟩, false), fun k hk => ?_⟩
      have g1 := l3Good_eq l h1 h2 a1 ha k (by omega)
      have b1 := l3Counts_eq false l h1 h2 a1 ha k (by omega)
      unfold spec_ShortestReading.f impl_ShortestReading.f impl_bestReading.f spec_l3Reading.f
      rw [g1, g2, b1, hr, hgd, counts_same]
      simp only [Option.bind_some, if_true, h0, c1]
      rw [if_pos (by omega), show rd (sCnt false l a1) 0 = (sCnt false l a1).getD 0 0 from rd_getD _ 0, if_pos h0]
      exact ⟨rfl, trivial⟩
    · have hmul : a1.size * (l.length + 1) ≤ 40 * 11 := Nat.mul_le_mul h40 (by omega)
      obtain ⟨R, r1, r2⟩ := go_same false l (by omega) (fun c hc => ⟨(hmem c hc).1, by have := hmem c hc; omega⟩) a1 (by omega) (sCnt false l a1) c1 c2 c3 a1.size 0 (⟨#[]⟩ : ByteArray) (Nat.zero_le _) (by omega) (Nat.le_refl _) (by omega)
      refine ⟨(R, true), fun k hk => ?_⟩
      have g1 := l3Good_eq l h1 h2 a1 ha k (by omega)
      have b1 := l3Counts_eq false l h1 h2 a1 ha k (by omega)
      have q1 := r1 k (by omega)
      have q2 := r2 (a1.size + 1) (by omega)
      rw [Int.natCast_zero] at q1
      unfold spec_ShortestReading.f impl_ShortestReading.f impl_bestReading.f spec_l3Reading.f
      rw [g1, g2, b1, hr, hgd, counts_same]
      simp only [Option.bind_some, if_true, h0, c1, if_false, q2]
      rw [if_pos (by omega), show rd (sCnt false l a1) 0 = (sCnt false l a1).getD 0 0 from rd_getD _ 0, if_neg h0, q1]
      exact ⟨rfl, trivial⟩
  · refine ⟨(⟨#[]⟩, false), fun k hk => ?_⟩
    unfold spec_ShortestReading.f impl_ShortestReading.f impl_bestReading.f
    rw [l3Good_eq l h1 h2 a1 ha k (by omega), g2, (Bool.not_eq_true _).mp hr]
    exact ⟨rfl, rfl⟩

end Go.Proofs.YtajmbipefekecaaDoor.Pure
