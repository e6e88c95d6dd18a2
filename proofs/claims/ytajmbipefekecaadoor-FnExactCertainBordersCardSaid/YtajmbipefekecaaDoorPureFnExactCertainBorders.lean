/- CertainBorders of the program and of the reference answer alike at every table and text. -/
import Derived.Test.YtajmbipefekecaaDoorHFnExactCertainBordersx9
namespace Go.Proofs.YtajmbipefekecaaDoor.Pure
open Go.RowKit Go.Proofs.YtajmbipefekecaaDoor.HFnExactCertainBorders Go.Proofs.YtajmbipefekecaaDoorW.PrintWords Go.Proofs.YtajmbipefekecaaDoorW.PrintLast
set_option linter.unusedVariables false
set_option linter.unusedSimpArgs false
set_option linter.unnecessarySimpa false

theorem wr {i : Int} (h0 : -9223372036854775808 ≤ i) (h1 : i ≤ 9223372036854775807) : wrap64 i = i := by unfold wrap64; omega
theorem rd_nat (xs : List Int) (i : Nat) : rd xs (i : Int) = xs.getD i 0 := by simp [rd]
theorem rd_get (xs : List Int) (i : Nat) (h : i < xs.length) : rd xs (i : Int) = xs[i] := by simp [rd, h]
theorem pred_of_lt {d k : Nat} (h : d < k) : ∃ m, k = m + 1 := ⟨k - 1, by omega⟩
/-! bytes of a text -/
theorem size_data (s : ByteArray) : s.data.toList.length = s.size := Array.length_toList
theorem bt_nat (s : ByteArray) (i : Nat) (h : i < s.size) : bt s (i : Int) = ((s.data.toList[i]'(by rw [size_data]; exact h)).toNat : Int) := by
  have := bt_at s (i : Int) (by simpa using h)
  rw [← this]
  rfl
theorem byte_num (b c : UInt8) (n : Nat) (hc : c.toNat = n) : ((b.toNat : Int) = (n : Int)) ↔ b = c := by
  constructor
  · intro h
    exact UInt8.toNat_inj.1 (by omega)
  · rintro rfl; omega
/-! what is left when bytes of a set are taken off both ends -/
theorem dropWhile_nil {p : UInt8 → Bool} (l : List UInt8) : l.dropWhile p = [] ↔ l.all p = true := by
  induction l with
  | nil => simp
  | cons a l ih =>
    rw [List.dropWhile_cons]
    by_cases h : p a = true
    · rw [if_pos h, ih]; simp [h]
    · rw [if_neg h]; simp [h]
theorem trimS_nil (l cs : List UInt8) : Lib.trimS l cs = [] ↔ l.all (cs.contains ·) = true := by
  unfold Lib.trimS Lib.trimLeftS Lib.trimRightS
  rw [dropWhile_nil]
  constructor
  · intro h
    by_cases hr : (l.reverse.dropWhile (cs.contains ·)) = []
    · rw [dropWhile_nil, List.all_reverse] at hr; exact hr
    · exfalso
      rw [List.all_reverse] at h
      cases hd : l.reverse.dropWhile (cs.contains ·) with
      | nil => exact hr hd
      | cons a t =>
        have ha : cs.contains a = false := by
          have := List.head?_dropWhile_not (cs.contains ·) l.reverse
          rw [hd] at this
          simpa using this
        rw [hd] at h
        simp at h
        rw [List.contains_eq_mem] at ha
        simp [h.1] at ha
  · intro h
    have : (l.reverse.dropWhile (cs.contains ·)) = [] := by
      rw [dropWhile_nil, List.all_reverse]; exact h
    rw [this]; rfl
theorem toList_nil (l : List UInt8) : ((⟨l.toArray⟩ : ByteArray).toList == ([] : List UInt8)) = l.isEmpty := by
  have : (⟨l.toArray⟩ : ByteArray).toList = l := by
    rw [ByteArray.toList_eq]
  rw [this]
  cases l <;> rfl
theorem l1In_eq (a b c : Int) : spec_l1In.f a b c = some (decide (b ≤ a) && decide (a ≤ c)) := by
  unfold spec_l1In.f
  by_cases h : a ≥ b
  · rw [if_pos h]; simp [show b ≤ a from h]
  · rw [if_neg h]; simp [show ¬ b ≤ a from h]
theorem in_eq (a b c : Int) : impl_in.f a b c = some (decide (b ≤ a) && decide (a ≤ c)) := by
  unfold impl_in.f
  by_cases h : a ≥ b
  · rw [if_pos h]; simp [show b ≤ a from h]
  · rw [if_neg h]; simp [show ¬ b ≤ a from h]
/-! lists of texts: their sizes, copies, comparisons -/
theorem rdS_get (xs : List ByteArray) (i : Nat) (h : i < xs.length) : rdOf ByteArray.empty xs (i : Int) = xs[i] := by simp [rdOf, h]
theorem toList_inj (a b : ByteArray) : a.toList = b.toList ↔ a = b := by
  rw [ByteArray.toList_eq, ByteArray.toList_eq]
  constructor
  · intro h; exact ByteArray.ext (Array.toList_inj.1 h)
  · rintro rfl; rfl
theorem szStringS_l0 (l : List ByteArray) (hl : l.length ≤ maxLen) (hs : ∀ s ∈ l, s.size ≤ maxLen) (d : Nat) : ∀ (i : Nat) (left : Int), 0 ≤ left → left ≤ 1048576 → i ≤ l.length → l.length - i = d →
    ∃ t : Int, (∀ k, d < k → laws_szStringS.l0 k l left (i : Int) = some t) ∧ t ≤ left ∧ (0 ≤ t → ∀ j (h : j < l.length), i ≤ j → (l[j].size : Int) ≤ left) := by
  unfold maxLen at hl hs
  induction d with
  | zero =>
    intro i left h0 h1 hi hd
    refine ⟨left, fun k hk => ?_, by omega, fun _ j h hij => by omega⟩
    obtain ⟨k, rfl⟩ := pred_of_lt hk
    simp only [laws_szStringS.l0]; rw [if_neg (by omega)]
  | succ d ih =>
    intro i left h0 h1 hi hd
    have hlt : i < l.length := by omega
    have hsz := hs _ (List.getElem_mem hlt)
    have c1 : (i : Int) < (l.length : Int) := by omega
    have c2 : (0 : Int) ≤ (i : Int) := by omega
    have e1 : wrap64 ((i : Int) + 1) = ((i + 1 : Nat) : Int) := by rw [wr (by omega) (by omega)]; omega
    have e2 : wrap64 (left - (l[i].size : Int)) = left - (l[i].size : Int) := by rw [wr (by omega) (by omega)]
    by_cases hc : left - (l[i].size : Int) < 0
    · refine ⟨-1, fun k hk => ?_, by omega, fun h => by omega⟩
      obtain ⟨k, rfl⟩ := pred_of_lt hk
      simp only [laws_szStringS.l0, c1, c2, if_true, rdS_get l i hlt, e2, hc]
    · obtain ⟨t, ht, h2, h3⟩ := ih (i + 1) (left - (l[i].size : Int)) (by omega) (by omega) (by omega) (by omega)
      refine ⟨t, fun k hk => ?_, by omega, fun h0t j h hij => ?_⟩
      · obtain ⟨k, rfl⟩ := pred_of_lt hk
        simp only [laws_szStringS.l0, c1, c2, if_true, rdS_get l i hlt, e2, hc, if_false, e1]
        exact ht k (by omega)
      · by_cases hji : i = j
        · subst hji; omega
        · have := h3 h0t j h (by omega); omega
theorem szStringS_eq (l : List ByteArray) (hl : l.length ≤ maxLen) (hs : ∀ s ∈ l, s.size ≤ maxLen) : ∃ t : Int, (∀ k, l.length < k → laws_szStringS.f k l 1048576 = some t) ∧ (0 ≤ t → l.length ≤ 1048576 ∧ ∀ s ∈ l, s.size ≤ 1048576) := by
  have hl' := hl
  unfold maxLen at hl'
  have e : wrap64 (1048576 - (l.length : Int)) = 1048576 - (l.length : Int) := by rw [wr (by omega) (by omega)]
  by_cases hc : 1048576 - (l.length : Int) < 0
  · refine ⟨-1, fun k hk => ?_, fun h => by omega⟩
    unfold laws_szStringS.f
    rw [e, if_pos hc]
  · obtain ⟨t, ht, h2, h3⟩ := szStringS_l0 l hl hs l.length 0 (1048576 - (l.length : Int)) (by omega) (by omega) (by omega) (by omega)
    refine ⟨t, fun k hk => ?_, fun h0 => ⟨by omega, fun s hsm => ?_⟩⟩
    · unfold laws_szStringS.f
      rw [e, if_neg hc]
      exact ht k hk
    · obtain ⟨j, hj, rfl⟩ := List.getElem_of_mem hsm
      have := h3 h0 j hj (by omega)
      omega
theorem toStringS_l0 (x0 : List ByteArray) (hx : x0.length ≤ 1048576) (d : Nat) : ∀ (k i : Nat) (x3 : List ByteArray), i ≤ x0.length → x0.length - i = d → d < k → x3.length = x0.length → (∀ j, j < i → x3[j]? = x0[j]?) →
    laws_toStringS.l0 k x0 x3 (i : Int) = some x0 := by
  induction d with
  | zero =>
    intro k i x3 hi hd hk hl ht
    obtain ⟨k, rfl⟩ := pred_of_lt hk
    simp only [laws_toStringS.l0]; rw [if_neg (by omega)]
    refine congrArg some (List.ext_getElem? fun j => ?_)
    by_cases hj : j < i
    · exact ht j hj
    · rw [List.getElem?_eq_none (by omega), List.getElem?_eq_none (by omega)]
  | succ d ih =>
    intro k i x3 hi hd hk hl ht
    obtain ⟨k, rfl⟩ := pred_of_lt hk
    simp only [laws_toStringS.l0]; rw [if_pos (by omega), if_pos (by omega), if_pos (by omega), wr (by omega) (by omega)]
    have e : ((i : Int) + 1) = ((i + 1 : Nat) : Int) := by omega
    rw [e, Int.toNat_natCast, rdS_get x0 i (by omega)]
    refine ih k (i + 1) _ (by omega) (by omega) (by omega) (by simpa using hl) fun j hj => ?_
    rw [List.getElem?_set]
    by_cases hji : i = j
    · subst hji
      simp [show i < x3.length by omega, show i < x0.length by omega]
    · rw [if_neg hji]; exact ht j (by omega)
theorem toStringS_eq (l : List ByteArray) (h : l.length ≤ 1048576) (k : Nat) (hk : l.length < k) : laws_toStringS.f k l = some l := by
  unfold laws_toStringS.f
  rw [if_pos (by omega), if_pos (by omega)]
  exact toStringS_l0 l (by omega) l.length k 0 _ (by omega) (by omega) hk (by simp) (fun j hj => by omega)
theorem eqStringS_l0 (a : List ByteArray) (ha : a.length ≤ 1048576) (d : Nat) : ∀ (k i : Nat), i ≤ a.length → a.length - i = d → d < k → laws_eqStringS.l0 k a a (i : Int) = some true := by
  induction d with
  | zero =>
    intro k i hi hd hk
    obtain ⟨k, rfl⟩ := pred_of_lt hk
    simp only [laws_eqStringS.l0]; rw [if_neg (by omega)]
  | succ d ih =>
    intro k i hi hd hk
    obtain ⟨k, rfl⟩ := pred_of_lt hk
    simp only [laws_eqStringS.l0, if_true]; rw [if_pos (by omega), if_pos (by omega), if_pos (by omega), wr (by omega) (by omega)]
    have e : ((i : Int) + 1) = ((i + 1 : Nat) : Int) := by omega
    rw [e]
    exact ih k (i + 1) (by omega) (by omega) (by omega)
theorem eqStringS_self (a : List ByteArray) (ha : a.length ≤ 1048576) (k : Nat) (hk : a.length < k) : laws_eqStringS.f k a a = some true := by
  unfold laws_eqStringS.f
  rw [if_pos rfl]
  exact eqStringS_l0 a ha a.length k 0 (by omega) (by omega) hk
/-! a table that a law is handed -/
theorem szTable_eq (l : List ByteArray) (hl : l.length ≤ maxLen) (hs : ∀ s ∈ l, s.size ≤ maxLen) : ∃ t : Int, (∀ k, l.length < k → laws_szTable.f k l 1048576 = some t) ∧ (0 ≤ t → l.length ≤ 1048576 ∧ ∀ s ∈ l, s.size ≤ 1048576) := by
  obtain ⟨t, ht, h⟩ := szStringS_eq l hl hs
  by_cases h0 : t < 0
  · refine ⟨-1, fun k hk => ?_, fun h => by omega⟩
    unfold laws_szTable.f
    rw [ht k hk]; simp only [Option.bind_some]; rw [if_pos h0]
  · refine ⟨t, fun k hk => ?_, h⟩
    unfold laws_szTable.f
    rw [ht k hk]; simp only [Option.bind_some]; rw [if_neg h0]
theorem toTable_eq (l : List ByteArray) (h : l.length ≤ 1048576) (k : Nat) (hk : l.length < k) : laws_toTable.f k l = some l := by
  unfold laws_toTable.f; rw [toStringS_eq l h k hk]; rfl
theorem eqTable_self (l : List ByteArray) (h : l.length ≤ 1048576) (k : Nat) (hk : l.length < k) : laws_eqTable.f k l l = some true := by
  unfold laws_eqTable.f; rw [eqStringS_self l h k hk]; rfl
/-! marks, as both sides ask for them -/
def dotDash (b : UInt8) : Bool := b == 46 || b == 45
def isMk (s : ByteArray) (lo hi : Int) : Bool := (decide (lo ≤ (s.size : Int)) && decide ((s.size : Int) ≤ hi)) && s.data.toList.all dotDash
theorem bt_is (s : ByteArray) (i : Nat) (h : i < s.size) (c : UInt8) (n : Int) (hc : (c.toNat : Int) = n) : (bt s (i : Int) = n) ↔ (s.data.toList[i]'(by rw [size_data]; exact h)) = c := by
  rw [bt_nat s i h, ← hc]
  constructor
  · intro e; exact UInt8.toNat_inj.1 (by omega)
  · intro e; rw [e]
theorem l2Marks_l0 (s : ByteArray) (hs : s.size ≤ 1048576) (lo hi : Int) (d : Nat) : ∀ (k i : Nat), i ≤ s.size → s.size - i = d → 2 * d + 1 < k → (s.data.toList.take i).all dotDash = true → spec_l2Marks.l0 k s lo hi (i : Int) = some (isMk s lo hi) := by
  have hsz := size_data s
  induction d with
  | zero =>
    intro k i hi' hd hk ht
    obtain ⟨k, rfl⟩ := pred_of_lt hk
    obtain ⟨k, rfl⟩ : ∃ m, k = m + 1 := ⟨k - 1, by omega⟩
    simp only [spec_l2Marks.l0]; rw [if_neg (by omega)]
    simp only [spec_l2Marks.j1]; rw [if_neg (by simp), l1In_eq]
    rw [List.take_of_length_le (by omega)] at ht
    simp only [Option.bind_some, isMk, ht, Bool.and_true]
  | succ d ih =>
    intro k i hi' hd hk ht
    obtain ⟨k, rfl⟩ := pred_of_lt hk
    obtain ⟨k, rfl⟩ : ∃ m, k = m + 1 := ⟨k - 1, by omega⟩
    have c1 : (i : Int) < (s.size : Int) := by omega
    have c2 : (0 : Int) ≤ (i : Int) := by omega
    have e : wrap64 ((i : Int) + 1) = ((i + 1 : Nat) : Int) := by rw [wr (by omega) (by omega)]; omega
    simp only [spec_l2Marks.l0, c1, if_true, spec_l2Marks.j1]
    by_cases h200 : (i : Int) ≤ hi
    · have hd2 : decide ((i : Int) ≤ hi) = true := by simpa using h200
      simp only [hd2, c2, if_true, e]
      have hlt : i < s.data.toList.length := by omega
      have next : dotDash (s.data.toList[i]) = true → spec_l2Marks.l0 k s lo hi ((i + 1 : Nat) : Int) = some (isMk s lo hi) := fun hb => ih k (i + 1) (by omega) (by omega) (by omega) (by
        rw [List.take_succ_eq_append_getElem hlt, List.all_append, ht]; simp only [List.all_cons, List.all_nil, hb, Bool.and_true])
      by_cases h0 : bt s (i : Int) = 46
      · rw [if_pos h0]
        exact next (by rw [bt_is s i (by omega) 46 46 (by decide)] at h0; rw [h0]; decide)
      · rw [if_neg h0]
        by_cases h1 : bt s (i : Int) = 45
        · rw [if_pos h1]
          exact next (by rw [bt_is s i (by omega) 45 45 (by decide)] at h1; rw [h1]; decide)
        · rw [if_neg h1]
          rw [bt_is s i (by omega) 46 46 (by decide)] at h0
          rw [bt_is s i (by omega) 45 45 (by decide)] at h1
          have hm : s.data.toList[i] ∈ s.data.toList := List.getElem_mem _
          have hf : s.data.toList.all dotDash = false := by
            rw [List.all_eq_false]; exact ⟨_, hm, by simp only [dotDash, Bool.or_eq_true, beq_iff_eq, h0, h1, or_self, not_false_eq_true]⟩
          simp only [isMk, hf, Bool.and_false]
    · have hd2 : decide ((i : Int) ≤ hi) = false := by simpa using h200
      simp only [hd2, Bool.false_eq_true, if_false]
      have hn : decide ((s.size : Int) ≤ hi) = false := by simp; omega
      rw [l1In_eq]
      simp only [Option.bind_some, isMk, hn, Bool.and_false, Bool.false_and]
theorem l2Marks_eq (s : ByteArray) (hs : s.size ≤ 1048576) (lo hi : Int) (k : Nat) (hk : 2 * s.size + 1 < k) : spec_l2Marks.f k s lo hi = some (isMk s lo hi) := by
  unfold spec_l2Marks.f
  exact l2Marks_l0 s hs lo hi s.size k 0 (by omega) (by omega) hk (by simp)
theorem areMarks_eq (s : ByteArray) (hs : s.size ≤ 1048576) (lo hi : Int) : impl_areMarks.f s lo hi = some (isMk s lo hi) := by
  unfold impl_areMarks.f
  rw [in_eq]
  simp only [Option.bind_some]
  by_cases h : (decide (lo ≤ (s.size : Int)) && decide ((s.size : Int) ≤ hi)) = true
  · rw [if_pos h]
    unfold strings_Trim.f
    rw [if_pos (by omega), if_pos (by decide), if_pos (by decide)]
    simp only [Option.bind_some]
    rw [toList_nil]
    have e : (Lib.trimS s.data.toList [46, 45]).isEmpty = s.data.toList.all dotDash := by
      rw [Bool.eq_iff_iff, List.isEmpty_iff, trimS_nil]
      have : (fun x => [46, 45].contains x) = dotDash := by
        funext x
        simp [dotDash, List.contains_eq_mem]
        rfl
      rw [this]
    show some (Lib.trimS s.data.toList [46, 45]).isEmpty = _
    rw [e]
    simp only [isMk, h, Bool.true_and]
  · rw [if_neg h]
    simp only [isMk, (Bool.not_eq_true _).mp h, Bool.false_and]
theorem in_eq' (a b c : Int) : impl_in.f a b c = some (decide (b ≤ a) && decide (a ≤ c)) := in_eq a b c
/-! a table, as both sides ask for it -/
def has (l : List ByteArray) (a : ByteArray) : Bool := l.any fun b => a.toList == b.toList
def goodT : List ByteArray → List ByteArray → Bool
  | _, [] => true
  | seen, a :: t => isMk a 1 5 && (!has seen a && goodT (seen ++ [a]) t)
def isTab (l : List ByteArray) : Bool := (decide (1 ≤ (l.length : Int)) && decide ((l.length : Int) ≤ 10)) && goodT [] l
theorem take_snoc {α : Type} (l : List α) (i : Nat) (h : i < l.length) : l.take (i + 1) = l.take i ++ [l[i]] := List.take_succ_eq_append_getElem h
theorem drop_cons {α : Type} (l : List α) (i : Nat) (h : i < l.length) : l.drop i = l[i] :: l.drop (i + 1) := List.drop_eq_getElem_cons h
theorem has_take (l : List ByteArray) (a : ByteArray) (i : Nat) (h : i < l.length) : has (l.take (i + 1)) a = (has (l.take i) a || (a.toList == l[i].toList)) := by
  unfold has
  rw [take_snoc l i h, List.any_append]; simp only [List.any_cons, List.any_nil, Bool.or_false]
/-- where a text stands in a list first, or -1 -/
def placeN (l : List ByteArray) (a : ByteArray) : Int := match l.findIdx? (fun b => a.toList == b.toList) with
  | some i => (i : Int)
  | none => -1
theorem place_hit (l : List ByteArray) (a : ByteArray) (i : Nat) (hi : i < l.length) (h1 : has (l.take i) a = false) (h2 : a.toList = l[i].toList) : placeN l a = (i : Int) := by
  unfold placeN
  have : l.findIdx? (fun b => a.toList == b.toList) = some i := by
    rw [List.findIdx?_eq_some_iff_getElem]
    refine ⟨hi, by simpa using h2, fun j hj => ?_⟩
    intro hc
    have hm : l[j] ∈ l.take i := by
      rw [List.mem_take_iff_getElem]
      exact ⟨j, by omega, rfl⟩
    have ht : has (l.take i) a = true := List.any_eq_true.2 ⟨_, hm, hc⟩
    rw [h1] at ht; cases ht
  rw [this]
theorem place_none (l : List ByteArray) (a : ByteArray) (h : has l a = false) : placeN l a = -1 := by
  unfold placeN
  have : l.findIdx? (fun b => a.toList == b.toList) = none := by
    rw [List.findIdx?_eq_none_iff]
    intro x hx
    have := List.any_eq_false.1 h x hx
    simpa using this
  rw [this]
theorem l2Place_l0 (l : List ByteArray) (hl : l.length ≤ 1048576) (a : ByteArray) (d : Nat) : ∀ (k i : Nat), i ≤ l.length → l.length - i = d → d < k → has (l.take i) a = false → spec_l2Place.l0 k l a (i : Int) = some (placeN l a) := by
  induction d with
  | zero =>
    intro k i hi hd hk ht
    obtain ⟨k, rfl⟩ := pred_of_lt hk
    simp only [spec_l2Place.l0]; rw [if_neg (by omega)]
    rw [List.take_of_length_le (by omega)] at ht
    rw [place_none l a ht]
  | succ d ih =>
    intro k i hi hd hk ht
    obtain ⟨k, rfl⟩ := pred_of_lt hk
    have hlt : i < l.length := by omega
    simp only [spec_l2Place.l0]; rw [if_pos (by omega), if_pos (by omega), rdS_get l i hlt]
    by_cases hc : l[i].toList = a.toList
    · rw [if_pos hc, place_hit l a i hlt ht hc.symm]
    · rw [if_neg hc, wr (by omega) (by omega)]
      have e : ((i : Int) + 1) = ((i + 1 : Nat) : Int) := by omega
      rw [e]
      refine ih k (i + 1) (by omega) (by omega) (by omega) ?_
      rw [has_take l a i hlt, ht, Bool.false_or, beq_eq_false_iff_ne]
      exact fun e => hc e.symm
theorem l2Place_eq (l : List ByteArray) (hl : l.length ≤ 1048576) (a : ByteArray) (k : Nat) (hk : l.length < k) : spec_l2Place.f k l a = some (placeN l a) := by
  unfold spec_l2Place.f
  exact l2Place_l0 l hl a l.length k 0 (by omega) (by omega) hk (by simp [has])
theorem sIndex_l0 (l : List ByteArray) (hl : l.length ≤ 1048576) (a : ByteArray) (d : Nat) : ∀ (k i : Nat), i ≤ l.length → l.length - i = d → d < k → has (l.take i) a = false → slices_Index_string_string.l0 k l a (l.length : Int) (i : Int) = some (placeN l a) := by
  induction d with
  | zero =>
    intro k i hi hd hk ht
    obtain ⟨k, rfl⟩ := pred_of_lt hk
    simp only [slices_Index_string_string.l0]; rw [if_neg (by omega)]
    rw [List.take_of_length_le (by omega)] at ht
    rw [place_none l a ht]
  | succ d ih =>
    intro k i hi hd hk ht
    obtain ⟨k, rfl⟩ := pred_of_lt hk
    have hlt : i < l.length := by omega
    simp only [slices_Index_string_string.l0]; rw [if_pos (by omega), if_pos (by omega), if_pos (by omega), rdS_get l i hlt]
    by_cases hc : a.toList = l[i].toList
    · rw [if_pos hc, place_hit l a i hlt ht hc]
    · rw [if_neg hc, wr (by omega) (by omega)]
      have e : ((i : Int) + 1) = ((i + 1 : Nat) : Int) := by omega
      rw [e]
      refine ih k (i + 1) (by omega) (by omega) (by omega) ?_
      rw [has_take l a i hlt, ht, Bool.false_or, beq_eq_false_iff_ne]
      exact hc
theorem sIndex_eq (l : List ByteArray) (hl : l.length ≤ 1048576) (a : ByteArray) (k : Nat) (hk : l.length < k) : slices_Index_string_string.f k l a = some (placeN l a) := by
  unfold slices_Index_string_string.f
  exact sIndex_l0 l hl a l.length k 0 (by omega) (by omega) hk (by simp [has])
theorem place_has (l : List ByteArray) (a : ByteArray) : decide (placeN l a ≥ 0) = has l a := by
  by_cases h : has l a = true
  · obtain ⟨x, hx, hb⟩ := List.any_eq_true.1 h
    unfold placeN
    cases hf : l.findIdx? (fun b => a.toList == b.toList) with
    | none =>
      have := List.findIdx?_eq_none_iff.1 hf x hx
      rw [hb] at this; cases this
    | some i => rw [h]; simp
  · rw [place_none l a ((Bool.not_eq_true _).mp h), (Bool.not_eq_true _).mp h]; decide
theorem sContains_eq (l : List ByteArray) (hl : l.length ≤ 1048576) (a : ByteArray) (k : Nat) (hk : l.length < k) : slices_Contains_string_string.f k l a = some (has l a) := by
  unfold slices_Contains_string_string.f
  rw [sIndex_eq l hl a k hk]
  simp only [Option.bind_some]
  rw [place_has]
theorem place_self (l : List ByteArray) (i : Nat) (hi : i < l.length) : (placeN l l[i] = (i : Int)) ↔ has (l.take i) l[i] = false := by
  constructor
  · intro h
    by_cases hc : has (l.take i) l[i] = true
    · exfalso
      obtain ⟨x, hx, hb⟩ := List.any_eq_true.1 hc
      obtain ⟨j, hj, rfl⟩ := List.getElem_of_mem hx
      rw [List.length_take] at hj
      unfold placeN at h
      cases hf : l.findIdx? (fun b => l[i].toList == b.toList) with
      | none => rw [hf] at h; simp at h
      | some m =>
        rw [hf] at h
        have hm : m = i := by
          have h' : (m : Int) = (i : Int) := h
          omega
        subst hm
        have := (List.findIdx?_eq_some_iff_getElem.1 hf).2.2 j (by omega)
        rw [List.getElem_take] at hb
        exact this hb
    · exact (Bool.not_eq_true _).mp hc
  · intro h
    exact place_hit l l[i] i hi h rfl
theorem l2Table_l0 (l : List ByteArray) (hl : l.length ≤ 1048576) (hs : ∀ s ∈ l, s.size ≤ 1048576) (M : Nat) (hM : l.length + 2097160 ≤ M) (d : Nat) : ∀ (k i : Nat), i ≤ l.length → l.length - i = d → M + d < k → spec_l2Table.l0 k (i : Int) l = some (goodT (l.take i) (l.drop i)) := by
  induction d with
  | zero =>
    intro k i hi hd hk
    obtain ⟨k, rfl⟩ := pred_of_lt hk
    simp only [spec_l2Table.l0]; rw [if_neg (by omega), List.drop_eq_nil_of_le (by omega)]
    simp [goodT]
  | succ d ih =>
    intro k i hi hd hk
    obtain ⟨k, rfl⟩ := pred_of_lt hk
    have hlt : i < l.length := by omega
    have hz := hs _ (List.getElem_mem hlt)
    rw [drop_cons l i hlt]
    simp only [spec_l2Table.l0]; rw [if_pos (by omega), if_pos (by omega), rdS_get l i hlt, l2Marks_eq _ hz 1 5 k (by omega), l2Place_eq l hl _ k (by omega)]
    simp only [Option.bind_some, goodT]
    by_cases h1 : isMk l[i] 1 5 = true
    · rw [if_pos h1, h1, Bool.true_and]
      by_cases h2 : placeN l l[i] = (i : Int)
      · rw [if_pos h2, (place_self l i hlt).1 h2, wr (by omega) (by omega)]
        have e : ((i : Int) + 1) = ((i + 1 : Nat) : Int) := by omega
        rw [e, ih k (i + 1) (by omega) (by omega) (by omega), take_snoc l i hlt]
        simp
      · rw [if_neg h2]
        have : has (l.take i) l[i] = true := by
          by_cases hc : has (l.take i) l[i] = true
          · exact hc
          · exact absurd ((place_self l i hlt).2 ((Bool.not_eq_true _).mp hc)) h2
        rw [this]; simp
    · rw [if_neg h1, (Bool.not_eq_true _).mp h1]; simp
theorem l2Table_eq (l : List ByteArray) (hl : l.length ≤ 1048576) (hs : ∀ s ∈ l, s.size ≤ 1048576) (k : Nat) (hk : 4194400 ≤ k) : spec_l2Table.f k l = some (isTab l) := by
  unfold spec_l2Table.f
  rw [l1In_eq]
  simp only [Option.bind_some]
  by_cases h : (decide (1 ≤ (l.length : Int)) && decide ((l.length : Int) ≤ 10)) = true
  · rw [if_pos h]
    have h10 : l.length ≤ 10 := by simp only [Bool.and_eq_true, decide_eq_true_eq] at h; omega
    have := l2Table_l0 l hl hs (l.length + 2097160) (by omega) l.length k 0 (by omega) (by omega) (by omega)
    rw [List.take_zero, List.drop_zero] at this
    simp only [isTab, h, Bool.true_and]
    exact this
  · rw [if_neg h]; simp only [isTab, (Bool.not_eq_true _).mp h, Bool.false_and]
theorem isLetterMarks_eq (s : ByteArray) (hs : s.size ≤ 1048576) : impl_isLetterMarks.f s = some (isMk s 1 5) := by
  unfold impl_isLetterMarks.f
  rw [areMarks_eq s hs]; rfl
theorem isTable_l0 (l : List ByteArray) (hl : l.length ≤ 1048576) (hs : ∀ s ∈ l, s.size ≤ 1048576) (d : Nat) : ∀ (k i : Nat), i ≤ l.length → l.length - i = d → l.length + d < k →
    impl_isTable.l0 k l (l.length : Int) (i : Int) l = some (goodT (l.take i) (l.drop i) && (decide (1 ≤ (l.length : Int)) && decide ((l.length : Int) ≤ 10))) := by
  induction d with
  | zero =>
    intro k i hi hd hk
    obtain ⟨k, rfl⟩ := pred_of_lt hk
    simp only [impl_isTable.l0]; rw [if_neg (by omega), List.drop_eq_nil_of_le (by omega), in_eq]
    simp [goodT]
  | succ d ih =>
    intro k i hi hd hk
    obtain ⟨k, rfl⟩ := pred_of_lt hk
    have hlt : i < l.length := by omega
    have hz := hs _ (List.getElem_mem hlt)
    have c1 : (i : Int) ≤ (l.length : Int) := by omega
    rw [drop_cons l i hlt]
    simp only [impl_isTable.l0]; rw [if_pos (by omega), if_pos (by omega), if_pos (by omega), rdS_get l i hlt, isLetterMarks_eq _ hz]
    simp only [Option.bind_some, goodT]
    by_cases h1 : isMk l[i] 1 5 = true
    · rw [if_pos h1, h1, Bool.true_and, if_pos c1, Int.toNat_natCast, sContains_eq _ (by rw [List.length_take]; omega) _ k (by rw [List.length_take]; omega)]
      simp only [Option.bind_some]
      by_cases h2 : has (l.take i) l[i] = true
      · rw [if_pos h2, h2]; simp
      · rw [if_neg h2, (Bool.not_eq_true _).mp h2, wr (by omega) (by omega)]
        have e : ((i : Int) + 1) = ((i + 1 : Nat) : Int) := by omega
        rw [e, ih k (i + 1) (by omega) (by omega) (by omega), take_snoc l i hlt]
        simp
    · rw [if_neg h1, (Bool.not_eq_true _).mp h1]; simp
theorem isTable_eq (l : List ByteArray) (hl : l.length ≤ 1048576) (hs : ∀ s ∈ l, s.size ≤ 1048576) (k : Nat) (hk : 4194400 ≤ k) : impl_isTable.f k l = some (isTab l) := by
  unfold impl_isTable.f
  have := isTable_l0 l hl hs l.length k 0 (by omega) (by omega) (by omega)
  rw [List.take_zero, List.drop_zero] at this
  rw [show isTab l = (goodT [] l && (decide (1 ≤ (l.length : Int)) && decide ((l.length : Int) ≤ 10))) from Bool.and_comm _ _]
  exact this
/-! in how many ways marks fall into letters, counted alike by both sides (in 64 bits) -/
def fits (s c : ByteArray) (i : Nat) : Bool := decide (i + c.size ≤ s.size) && (s.extract i (i + c.size)).toList == c.toList
theorem stands_eq (s c : ByteArray) (i : Nat) (hs : s.size ≤ 1048576) (hc : c.size ≤ 1048576) (hi : i ≤ s.size) : spec_l3Stands.f s c (i : Int) = some (fits s c i) := by
  have e : wrap64 ((i : Int) + (c.size : Int)) = ((i + c.size : Nat) : Int) := by rw [wr (by omega) (by omega)]; omega
  simp only [spec_l3Stands.f, e, fits]
  by_cases h : i + c.size ≤ s.size
  · rw [if_pos (by omega), if_pos (by omega), if_pos (by omega)]
    simp only [h, decide_true, Bool.true_and, Int.toNat_natCast]
  · rw [if_neg (by omega)]
    simp only [h, decide_false, Bool.false_and]
theorem hasPrefix_eq (s c : ByteArray) (i : Nat) (hs : s.size ≤ 1048576) (hc : c.size ≤ 1048576) (hi : i ≤ s.size) : strings_HasPrefix.f (s.extract i s.size) c = some (fits s c i) := by
  have hz : (s.extract i s.size).size = s.size - i := by rw [ByteArray.size_extract, Nat.min_self]
  have e : (s.extract i s.size).extract 0 c.size = s.extract i (min (i + c.size) s.size) := by
    rw [ByteArray.extract_extract, Nat.add_zero]
  simp only [strings_HasPrefix.f, stringslite_HasPrefix.f, hz, fits, Int.toNat_natCast]
  by_cases h : i + c.size ≤ s.size
  · rw [if_pos (by omega), if_pos (by omega), if_pos (by omega), e, Nat.min_eq_left h]
    simp only [h, decide_true, Bool.true_and, Option.bind_some]
  · rw [if_neg (by omega)]
    simp only [h, decide_false, Bool.false_and, Option.bind_some]
def wput (s : ByteArray) (i : Nat) (c : ByteArray) (x : List Int) : List Int := if fits s c i = true then x.set i (wrap64 (rd x (i : Int) + rd x ((i + c.size : Nat) : Int))) else x
def wstep (s : ByteArray) (i : Nat) (l : List ByteArray) (x : List Int) : List Int := l.foldl (fun x c => wput s i c x) x
def wall (s : ByteArray) (l : List ByteArray) : Nat → List Int → List Int
  | 0, x => x
  | i + 1, x => wall s l i (wstep s i l x)
theorem wput_len (s : ByteArray) (i : Nat) (c : ByteArray) (x : List Int) : (wput s i c x).length = x.length := by unfold wput; split <;> simp
theorem wstep_len (s : ByteArray) (i : Nat) (l : List ByteArray) : ∀ x, (wstep s i l x).length = x.length := by
  unfold wstep
  induction l with
  | nil => intro x; rfl
  | cons c l ih => intro x; rw [List.foldl_cons, ih, wput_len]
theorem wall_len (s : ByteArray) (l : List ByteArray) : ∀ i x, (wall s l i x).length = x.length
  | 0, x => rfl
  | i + 1, x => by rw [wall, wall_len s l i, wstep_len]
theorem wstep_drop (s : ByteArray) (i : Nat) (l : List ByteArray) (j : Nat) (h : j < l.length) (x : List Int) : wstep s i (l.drop j) x = wstep s i (l.drop (j + 1)) (wput s i l[j] x) := by
  rw [drop_cons l j h]; rfl
theorem sWays_l1 (s : ByteArray) (hs : s.size ≤ 1048576) (l : List ByteArray) (hl : l.length ≤ 1048576) (hc : ∀ c ∈ l, c.size ≤ 1048576) (i : Nat) (hi : i < s.size) (k d : Nat) : ∀ (m j : Nat) (x : List Int), m = k + d + 1 → j ≤ l.length → l.length - j = d → x.length = s.size + 1 →
    spec_l3Ways.l1 m s x (i : Int) (j : Int) l = spec_l3Ways.l0 k s (wstep s i (l.drop j) x) ((i : Int) - 1) l := by
  induction d with
  | zero =>
    intro m j x hm hj hd hx
    subst hm
    simp only [spec_l3Ways.l1, Nat.add_zero]; rw [if_neg (by omega), wr (by omega) (by omega), show j = l.length by omega, List.drop_length]; rfl
  | succ d ih =>
    intro m j x hm hj hd hx
    obtain ⟨m, rfl⟩ : ∃ m', m = m' + 1 := ⟨k + d + 1, by omega⟩
    have hlt : j < l.length := by omega
    obtain ⟨c, hcj, hget, hdrop⟩ : ∃ c : ByteArray, c.size ≤ 1048576 ∧ rdOf ByteArray.empty l (j : Int) = c ∧ wstep s i (l.drop j) x = wstep s i (l.drop (j + 1)) (wput s i c x) := ⟨l[j], hc _ (List.getElem_mem hlt), rdS_get l j hlt, wstep_drop s i l j hlt x⟩
    have n := ih m (j + 1) (wput s i c x) (Nat.succ.inj hm) hlt (by rw [Nat.sub_add_eq, hd]; rfl) ((wput_len s i c x).trans hx)
    have c1 : (j : Int) < (l.length : Int) := by omega
    have c2 : (0 : Int) ≤ (j : Int) := by omega
    have c3 : (0 : Int) ≤ (i : Int) := by omega
    have c4 : (i : Int) < (x.length : Int) := by omega
    have hi' : i ≤ s.size := by omega
    have e1 : wrap64 ((j : Int) + 1) = ((j + 1 : Nat) : Int) := by rw [wr (by omega) (by omega)]; omega
    have e2 : wrap64 ((i : Int) + (c.size : Int)) = ((i + c.size : Nat) : Int) := by clear e1; rw [wr (by omega) (by omega)]; omega
    rw [hdrop]
    simp only [spec_l3Ways.l1, c1, c2, c3, c4, if_true, hget, stands_eq s c i hs hcj hi', Option.bind_some, e1, e2]
    clear e1 e2
    by_cases hf : fits s c i = true
    · have hle : i + c.size ≤ s.size := by
        simp only [fits, Bool.and_eq_true, decide_eq_true_eq] at hf; exact hf.1
      rw [if_pos hf, if_pos (by omega), if_pos (by omega), ← n]
      unfold wput
      rw [if_pos hf, Int.toNat_natCast]
    · rw [if_neg hf, ← n]
      unfold wput
      rw [if_neg hf]
theorem iWays_l1 (s : ByteArray) (hs : s.size ≤ 1048576) (l : List ByteArray) (hl : l.length ≤ 1048576) (hc : ∀ c ∈ l, c.size ≤ 1048576) (i : Nat) (hi : i < s.size) (k d : Nat) : ∀ (m j : Nat) (x : List Int), m = k + d + 1 → j ≤ l.length → l.length - j = d → x.length = s.size + 1 →
    impl_ways.l1 m s x (i : Int) l (l.length : Int) (j : Int) l = impl_ways.l0 k s (wstep s i (l.drop j) x) ((i : Int) - 1) l := by
  induction d with
  | zero =>
    intro m j x hm hj hd hx
    subst hm
    simp only [impl_ways.l1, Nat.add_zero]; rw [if_neg (by omega), wr (by omega) (by omega), show j = l.length by omega, List.drop_length]; rfl
  | succ d ih =>
    intro m j x hm hj hd hx
    obtain ⟨m, rfl⟩ : ∃ m', m = m' + 1 := ⟨k + d + 1, by omega⟩
    have hlt : j < l.length := by omega
    obtain ⟨c, hcj, hget, hdrop⟩ : ∃ c : ByteArray, c.size ≤ 1048576 ∧ rdOf ByteArray.empty l (j : Int) = c ∧ wstep s i (l.drop j) x = wstep s i (l.drop (j + 1)) (wput s i c x) := ⟨l[j], hc _ (List.getElem_mem hlt), rdS_get l j hlt, wstep_drop s i l j hlt x⟩
    have n := ih m (j + 1) (wput s i c x) (Nat.succ.inj hm) hlt (by rw [Nat.sub_add_eq, hd]; rfl) ((wput_len s i c x).trans hx)
    have c1 : (j : Int) < (l.length : Int) := by omega
    have c2 : (0 : Int) ≤ (j : Int) := by omega
    have c3 : (0 : Int) ≤ (i : Int) := by omega
    have c4 : (i : Int) < (x.length : Int) := by omega
    have c5 : (i : Int) ≤ (s.size : Int) := by omega
    have hi' : i ≤ s.size := by omega
    have e1 : wrap64 ((j : Int) + 1) = ((j + 1 : Nat) : Int) := by rw [wr (by omega) (by omega)]; omega
    have e2 : wrap64 ((i : Int) + (c.size : Int)) = ((i + c.size : Nat) : Int) := by clear e1; rw [wr (by omega) (by omega)]; omega
    rw [hdrop]
    simp only [impl_ways.l1, c1, c2, c3, c4, c5, if_true, hget, Int.toNat_natCast, hasPrefix_eq s c i hs hcj hi', Option.bind_some, e1, e2]
    clear e1 e2
    by_cases hf : fits s c i = true
    · have hle : i + c.size ≤ s.size := by
        simp only [fits, Bool.and_eq_true, decide_eq_true_eq] at hf; exact hf.1
      rw [if_pos hf, if_pos (by omega), if_pos (by omega), ← n]
      unfold wput
      rw [if_pos hf]
    · rw [if_neg hf, ← n]
      unfold wput
      rw [if_neg hf]
theorem ways_fuel (L k i : Nat) : k + (i + 1) * (L + 2) + 1 = (k + i * (L + 2) + 1) + L + 1 + 1 := by rw [Nat.succ_mul]; omega
theorem sWays_l0 (s : ByteArray) (hs : s.size ≤ 1048576) (l : List ByteArray) (hl : l.length ≤ 1048576) (hc : ∀ c ∈ l, c.size ≤ 1048576) (k : Nat) : ∀ (i : Nat) (x : List Int), i ≤ s.size → x.length = s.size + 1 →
    spec_l3Ways.l0 (k + i * (l.length + 2) + 1) s x ((i : Int) - 1) l = some (wall s l i x)
  | 0, x, hi, hx => by
    simp only [spec_l3Ways.l0]; rw [if_neg (by omega)]; rfl
  | i + 1, x, hi, hx => by
    have ih := sWays_l0 s hs l hl hc k i (wstep s i l x) (by omega) (by rw [wstep_len]; exact hx)
    have st := sWays_l1 s hs l hl hc i (by omega) (k + i * (l.length + 2) + 1) l.length _ 0 x rfl (by omega) (by omega) hx
    rw [List.drop_zero, ih, Int.natCast_zero] at st
    rw [ways_fuel, show ((i + 1 : Nat) : Int) - 1 = (i : Int) by omega]
    simp only [spec_l3Ways.l0]; rw [if_pos (by omega), st]; rfl
theorem iWays_l0 (s : ByteArray) (hs : s.size ≤ 1048576) (l : List ByteArray) (hl : l.length ≤ 1048576) (hc : ∀ c ∈ l, c.size ≤ 1048576) (k : Nat) : ∀ (i : Nat) (x : List Int), i ≤ s.size → x.length = s.size + 1 →
    impl_ways.l0 (k + i * (l.length + 2) + 1) s x ((i : Int) - 1) l = some (wall s l i x)
  | 0, x, hi, hx => by
    simp only [impl_ways.l0]; rw [if_neg (by omega)]; rfl
  | i + 1, x, hi, hx => by
    have ih := iWays_l0 s hs l hl hc k i (wstep s i l x) (by omega) (by rw [wstep_len]; exact hx)
    have st := iWays_l1 s hs l hl hc i (by omega) (k + i * (l.length + 2) + 1) l.length _ 0 x rfl (by omega) (by omega) hx
    rw [List.drop_zero, ih, Int.natCast_zero] at st
    rw [ways_fuel, show ((i + 1 : Nat) : Int) - 1 = (i : Int) by omega]
    simp only [impl_ways.l0]; rw [if_pos (by omega), st]; rfl
def waysL (l : List ByteArray) (s : ByteArray) : List Int := wall s l s.size ((List.replicate (s.size + 1) (0 : Int)).set s.size 1)
theorem waysL_len (l : List ByteArray) (s : ByteArray) : (waysL l s).length = s.size + 1 := by rw [waysL, wall_len]; simp
def wfuel (l : List ByteArray) (s : ByteArray) : Nat := s.size * (l.length + 2) + 1
theorem l3Ways_eq (l : List ByteArray) (hl : l.length ≤ 1048576) (hc : ∀ c ∈ l, c.size ≤ 1048576) (s : ByteArray) (hs : s.size ≤ 1048576) (k : Nat) (hk : wfuel l s ≤ k) : spec_l3Ways.f k l s = some (waysL l s) := by
  obtain ⟨m, rfl⟩ : ∃ m, k = m + s.size * (l.length + 2) + 1 := ⟨k - wfuel l s, by unfold wfuel at *; omega⟩
  have e : wrap64 ((s.size : Int) + 1) = ((s.size + 1 : Nat) : Int) := by rw [wr (by omega) (by omega)]; omega
  have e2 : wrap64 ((s.size : Int) - 1) = (s.size : Int) - 1 := by clear e; rw [wr (by omega) (by omega)]
  simp only [spec_l3Ways.f, e, e2, Int.toNat_natCast, Option.bind_some, List.length_replicate]
  clear e e2
  rw [if_pos (by omega), if_pos (by omega), if_pos (by omega), if_pos (by omega)]
  exact sWays_l0 s hs l hl hc m s.size _ (Nat.le_refl _) (by simp)
theorem iWays_eq (l : List ByteArray) (hl : l.length ≤ 1048576) (hc : ∀ c ∈ l, c.size ≤ 1048576) (s : ByteArray) (hs : s.size ≤ 1048576) (k : Nat) (hk : wfuel l s ≤ k) : impl_ways.f k l s = some (waysL l s) := by
  obtain ⟨m, rfl⟩ : ∃ m, k = m + s.size * (l.length + 2) + 1 := ⟨k - wfuel l s, by unfold wfuel at *; omega⟩
  have e : wrap64 ((s.size : Int) + 1) = ((s.size + 1 : Nat) : Int) := by rw [wr (by omega) (by omega)]; omega
  have e2 : wrap64 ((s.size : Int) - 1) = (s.size : Int) - 1 := by clear e; rw [wr (by omega) (by omega)]
  simp only [impl_ways.f, e, e2, Int.toNat_natCast, Option.bind_some, List.length_replicate]
  clear e e2
  rw [if_pos (by omega), if_pos (by omega), if_pos (by omega), if_pos (by omega)]
  exact iWays_l0 s hs l hl hc m s.size _ (Nat.le_refl _) (by simp)
def isRd (l : List ByteArray) (s : ByteArray) : Bool := isTab l && isMk s 0 40
theorem l3Good_eq (l : List ByteArray) (hl : l.length ≤ 1048576) (hc : ∀ c ∈ l, c.size ≤ 1048576) (s : ByteArray) (hs : s.size ≤ 1048576) (k : Nat) (hk : 4194400 ≤ k) : spec_l3Good.f k l s = some (isRd l s) := by
  unfold spec_l3Good.f spec_l3Bare.f isRd
  rw [l2Table_eq l hl hc k hk, l2Marks_eq s hs 0 40 k (by omega)]
  cases isTab l <;> rfl
theorem isRead_eq (l : List ByteArray) (hl : l.length ≤ 1048576) (hc : ∀ c ∈ l, c.size ≤ 1048576) (s : ByteArray) (hs : s.size ≤ 1048576) (k : Nat) (hk : 4194400 ≤ k) : impl_isRead.f k l s = some (isRd l s) := by
  unfold impl_isRead.f impl_IsBare.f isRd
  rw [isTable_eq l hl hc k hk, areMarks_eq s hs 0 40]
  cases isTab l <;> rfl
/-! powers of two at places that are all different: their sum is less than the next power -/
theorem pow_sum : ∀ (m : Nat) (L : List Nat), L.Nodup → (∀ x ∈ L, x < m) → (L.map (2 ^ ·)).sum < 2 ^ m := by
  intro m
  induction m with
  | zero =>
    intro L _ h
    cases L with
    | nil => simp
    | cons x L => exact absurd (h x (by simp)) (by omega)
  | succ m ih =>
    intro L hn h
    by_cases hm : m ∈ L
    · have hp := (List.perm_cons_erase hm)
      have hs : (L.map (2 ^ ·)).sum = 2 ^ m + ((L.erase m).map (2 ^ ·)).sum := by
        have := (hp.map (2 ^ ·)).sum_nat
        rw [this]; simp
      have hn2 : (L.erase m).Nodup := hn.erase m
      have := ih (L.erase m) hn2 fun x hx => by
        have h1 := h x (List.mem_of_mem_erase hx)
        have h2 : x ≠ m := fun e => by
          subst e
          exact absurd hx (by rw [hn.mem_erase_iff]; simp)
        omega
      rw [hs, Nat.pow_succ]; omega
    · have := ih L hn fun x hx => by
        have h1 := h x hx
        have h2 : x ≠ m := fun e => hm (e ▸ hx)
        omega
      rw [Nat.pow_succ]; omega
/-! the counts of readings are sums over the letters that stand at a place, and stay small -/
def gain (s : ByteArray) (i : Nat) (x : List Int) (c : ByteArray) : Int := if fits s c i = true then rd x ((i + c.size : Nat) : Int) else 0
def gains (s : ByteArray) (i : Nat) (x : List Int) : List ByteArray → Int
  | [] => 0
  | c :: l => gain s i x c + gains s i x l
theorem rd_set (x : List Int) (i j : Nat) (v : Int) : rd (x.set i v) (j : Int) = if i = j ∧ j < x.length then v else rd x (j : Int) := by
  rw [rd_nat, rd_nat, List.getD_eq_getElem?_getD, List.getD_eq_getElem?_getD, List.getElem?_set]
  by_cases h : i = j
  · subst h
    by_cases h2 : i < x.length
    · simp [h2]
    · simp [h2]
  · simp [h]
theorem gain_set (s : ByteArray) (i j : Nat) (x : List Int) (v : Int) (c : ByteArray) (hc : 1 ≤ c.size) (hij : i ≤ j) : gain s j (x.set i v) c = gain s j x c := by
  unfold gain
  split
  · rw [rd_set, if_neg (by omega)]
  · rfl
theorem gains_set (s : ByteArray) (i j : Nat) (x : List Int) (v : Int) (hij : i ≤ j) : ∀ (l : List ByteArray), (∀ c ∈ l, 1 ≤ c.size) → gains s j (x.set i v) l = gains s j x l
  | [], _ => rfl
  | c :: l, h => by
    simp only [gains]
    rw [gain_set s i j x v c (h c (by simp)) hij, gains_set s i j x v hij l (fun c hc => h c (by simp [hc]))]
theorem gains_nonneg (s : ByteArray) (i : Nat) (x : List Int) (hx : ∀ j, i < j → 0 ≤ rd x (j : Int)) : ∀ (l : List ByteArray), (∀ c ∈ l, 1 ≤ c.size) → 0 ≤ gains s i x l
  | [], _ => by simp [gains]
  | c :: l, h => by
    have h1 := gains_nonneg s i x hx l (fun c hc => h c (by simp [hc]))
    have h2 : 0 ≤ gain s i x c := by
      unfold gain
      split
      · exact hx _ (by have := h c (by simp); omega)
      · omega
    simp only [gains]; omega
theorem wstep_sum (s : ByteArray) (i : Nat) : ∀ (l : List ByteArray) (x : List Int), (∀ c ∈ l, 1 ≤ c.size) → i < x.length → (∀ j, i ≤ j → 0 ≤ rd x (j : Int)) → rd x (i : Int) + gains s i x l ≤ 4611686018427387904 →
    wstep s i l x = x.set i (rd x (i : Int) + gains s i x l)
  | [], x, _, hi, _, _ => by
    simp only [wstep, List.foldl_nil, gains, Int.add_zero]
    rw [rd_nat, List.getD_eq_getElem?_getD, List.getElem?_eq_getElem hi]
    simp
  | c :: l, x, hc, hi, h0, hb => by
    have hc1 := hc c (by simp)
    have hcl : ∀ c ∈ l, 1 ≤ c.size := fun c h => hc c (by simp [h])
    have hn := gains_nonneg s i x (fun j hj => h0 j (by omega)) l hcl
    have e : wput s i c x = x.set i (rd x (i : Int) + gain s i x c) := by
      unfold wput
      by_cases hf : fits s c i = true
      · rw [if_pos hf]
        have hg : gain s i x c = rd x ((i + c.size : Nat) : Int) := by unfold gain; rw [if_pos hf]
        simp only [gains, hg] at hb
        have p1 := h0 i (Nat.le_refl _)
        have p2 := h0 (i + c.size) (by omega)
        rw [hg, wr (by omega) (by omega)]
      · rw [if_neg hf]
        have hg : gain s i x c = 0 := by unfold gain; rw [if_neg hf]
        rw [hg, Int.add_zero, rd_nat, List.getD_eq_getElem?_getD, List.getElem?_eq_getElem hi]
        simp
    have hgn : 0 ≤ gain s i x c := by
      unfold gain
      split
      · exact h0 _ (by omega)
      · omega
    show wstep s i l (wput s i c x) = _
    have es : rd (x.set i (rd x (i : Int) + gain s i x c)) (i : Int) = rd x (i : Int) + gain s i x c := by rw [rd_set, if_pos ⟨rfl, hi⟩]
    rw [e, wstep_sum s i l _ hcl (by simpa using hi) (fun j hj => by
      rw [rd_set]
      split
      · have := h0 i (Nat.le_refl _); omega
      · exact h0 j hj) (by
      rw [es, gains_set s i i x _ (Nat.le_refl _) l hcl]
      simp only [gains] at hb; omega)]
    rw [es, gains_set s i i x _ (Nat.le_refl _) l hcl, List.set_set]
    simp only [gains]
    rw [Int.add_assoc]
/-- no two letters of a table that stand at one place are equally long -/
theorem goodT_mem : ∀ (l seen : List ByteArray), goodT seen l = true → (∀ c ∈ l, 1 ≤ c.size ∧ c.size ≤ 5 ∧ ∀ b ∈ seen, c ≠ b) ∧ l.Nodup
  | [], _, _ => ⟨fun c h => absurd h (by simp), List.nodup_nil⟩
  | a :: t, seen, h => by
    simp only [goodT, Bool.and_eq_true, Bool.not_eq_true'] at h
    obtain ⟨h1, h2, h3⟩ := h
    obtain ⟨i1, i2⟩ := goodT_mem t (seen ++ [a]) h3
    refine ⟨fun c hc => ?_, ?_⟩
    · rcases List.mem_cons.1 hc with rfl | hc
      · simp only [isMk, Bool.and_eq_true, decide_eq_true_eq] at h1
        refine ⟨by omega, by omega, fun b hb e => ?_⟩
        have := List.any_eq_false.1 h2 b hb
        rw [e] at this; simp at this
      · obtain ⟨a1, a2, a3⟩ := i1 c hc
        exact ⟨a1, a2, fun b hb => a3 b (by simp [hb])⟩
    · rw [List.nodup_cons]
      exact ⟨fun hm => (i1 a hm).2.2 a (by simp) rfl, i2⟩
theorem isTab_mem (l : List ByteArray) (h : isTab l = true) : (∀ c ∈ l, 1 ≤ c.size ∧ c.size ≤ 5) ∧ l.Nodup ∧ 1 ≤ l.length ∧ l.length ≤ 10 := by
  simp only [isTab, Bool.and_eq_true, decide_eq_true_eq] at h
  obtain ⟨h1, h2⟩ := goodT_mem l [] h.2
  exact ⟨fun c hc => ⟨(h1 c hc).1, (h1 c hc).2.1⟩, h2, by omega, by omega⟩
theorem fits_eq (s a b : ByteArray) (i : Nat) (ha : fits s a i = true) (hb : fits s b i = true) (h : a.size = b.size) : a = b := by
  simp only [fits, Bool.and_eq_true, beq_iff_eq] at ha hb
  rw [h] at ha
  exact (toList_inj a b).1 (ha.2.symm.trans hb.2)
theorem fits_le (s c : ByteArray) (i : Nat) (h : fits s c i = true) : i + c.size ≤ s.size := by
  simp only [fits, Bool.and_eq_true, decide_eq_true_eq] at h
  exact h.1
theorem gains_pow (s : ByteArray) (i : Nat) (x : List Int) (hx : ∀ j, i < j → j ≤ s.size → rd x (j : Int) ≤ ((2 ^ (s.size - j) : Nat) : Int)) : ∀ (l : List ByteArray), (∀ c ∈ l, 1 ≤ c.size) →
    gains s i x l ≤ ((((l.filter fun c => fits s c i).map fun c => s.size - i - c.size).map (2 ^ ·)).sum : Nat)
  | [], _ => by simp [gains]
  | c :: l, h => by
    have ih := gains_pow s i x hx l (fun c hc => h c (by simp [hc]))
    by_cases hf : fits s c i = true
    · have h1 := hx (i + c.size) (by have := h c (by simp); omega) (fits_le s c i hf)
      have e : s.size - (i + c.size) = s.size - i - c.size := by omega
      rw [e] at h1
      rw [List.filter_cons_of_pos (p := fun c => fits s c i) hf]
      simp only [List.map_cons, List.sum_cons, gains, gain, if_pos hf]
      omega
    · rw [List.filter_cons_of_neg (p := fun c => fits s c i) hf]
      simp only [gains, gain, if_neg hf]
      omega
theorem gains_small (s : ByteArray) (i : Nat) (hi : i ≤ s.size) (x : List Int) (l : List ByteArray) (hl : ∀ c ∈ l, 1 ≤ c.size) (hn : l.Nodup) (hx : ∀ j, i < j → j ≤ s.size → rd x (j : Int) ≤ ((2 ^ (s.size - j) : Nat) : Int)) : gains s i x l ≤ ((2 ^ (s.size - i) : Nat) : Int) := by
  have h1 := gains_pow s i x hx l hl
  have h2 := pow_sum (s.size - i) ((l.filter fun c => fits s c i).map fun c => s.size - i - c.size) (by
    refine List.pairwise_map.2 ((List.Pairwise.imp_of_mem ?_ (hn.filter _)))
    intro a b ha hb hab e
    simp only [List.mem_filter] at ha hb
    have la := fits_le s a i ha.2
    have lb := fits_le s b i hb.2
    exact hab (fits_eq s a b i ha.2 hb.2 (by omega))) (by
    intro y hy
    obtain ⟨c, hc, rfl⟩ := List.mem_map.1 hy
    simp only [List.mem_filter] at hc
    have := hl c hc.1
    have := fits_le s c i hc.2
    omega)
  omega
structure WInv (l : List ByteArray) (s : ByteArray) (i : Nat) (x : List Int) : Prop where
  len : x.length = s.size + 1
  bnd : ∀ j, i ≤ j → j ≤ s.size → 0 ≤ rd x (j : Int) ∧ rd x (j : Int) ≤ ((2 ^ (s.size - j) : Nat) : Int)
  zero : ∀ j, j < i → rd x (j : Int) = 0
  sum : ∀ j, i ≤ j → j < s.size → rd x (j : Int) = gains s j x l
  last : rd x (s.size : Int) = 1
theorem wall_inv (l : List ByteArray) (s : ByteArray) (hs : s.size ≤ 60) (hl : ∀ c ∈ l, 1 ≤ c.size) (hn : l.Nodup) : ∀ (i : Nat) (x : List Int), i ≤ s.size → WInv l s i x → WInv l s 0 (wall s l i x)
  | 0, x, _, h => h
  | i + 1, x, hi, h => by
    refine wall_inv l s hs hl hn i (wstep s i l x) (by omega) ?_
    have z : rd x (i : Int) = 0 := h.zero i (by omega)
    have beyond : ∀ j, s.size < j → rd x (j : Int) = 0 := fun j hj => by
      rw [rd_nat, List.getD_eq_getElem?_getD, List.getElem?_eq_none (by rw [h.len]; omega)]; rfl
    have nn : ∀ j, i ≤ j → 0 ≤ rd x (j : Int) := fun j hj => by
      by_cases e : j = i
      · subst e; omega
      · by_cases hj2 : j ≤ s.size
        · exact (h.bnd j (by omega) hj2).1
        · rw [beyond j (by omega)]; omega
    have hg := gains_nonneg s i x (fun j hj => nn j (by omega)) l hl
    have hsm := gains_small s i (by omega) x l hl hn (fun j h1 h2 => (h.bnd j (by omega) h2).2)
    have hp : 2 ^ (s.size - i) ≤ 2 ^ 60 := Nat.pow_le_pow_right (by omega) (by omega)
    have e := wstep_sum s i l x hl (by rw [h.len]; omega) nn (by rw [z]; omega)
    rw [z, Int.zero_add] at e
    rw [e]
    have hil : i < x.length := by rw [h.len]; omega
    refine ⟨by simpa using h.len, fun j h1 h2 => ?_, fun j hj => ?_, fun j h1 h2 => ?_, ?_⟩
    · rw [rd_set]
      by_cases e : i = j
      · subst e; rw [if_pos ⟨rfl, hil⟩]; exact ⟨hg, hsm⟩
      · rw [if_neg (by omega)]; exact h.bnd j (by omega) h2
    · rw [rd_set, if_neg (by omega)]; exact h.zero j (by omega)
    · rw [gains_set s i j x _ h1 l hl, rd_set]
      by_cases e : i = j
      · subst e; rw [if_pos ⟨rfl, hil⟩]
      · rw [if_neg (by omega)]; exact h.sum j (by omega) h2
    · rw [rd_set, if_neg (by omega)]; exact h.last
theorem ways_inv (l : List ByteArray) (s : ByteArray) (hs : s.size ≤ 60) (h : isTab l = true) : WInv l s 0 (waysL l s) := by
  obtain ⟨h1, h2, _, _⟩ := isTab_mem l h
  refine wall_inv l s hs (fun c hc => (h1 c hc).1) h2 s.size _ (Nat.le_refl _) ?_
  have rz : ∀ j, rd (List.replicate (s.size + 1) (0 : Int)) (j : Nat) = 0 := fun j => by
    rw [rd_nat, List.getD_eq_getElem?_getD, List.getElem?_replicate]
    split <;> rfl
  refine ⟨by simp, fun j a b => ?_, fun j a => ?_, fun j a b => by omega, ?_⟩
  · obtain rfl : j = s.size := by omega
    rw [rd_set, if_pos ⟨rfl, by simp⟩]
    simp
  · rw [rd_set, if_neg (by omega), rz]
  · rw [rd_set, if_pos ⟨rfl, by simp⟩]
/-! lists of numbers, compared -/
theorem eqIntS_l0 (a b : List Int) (hab : a.length = b.length) (ha : a.length ≤ 1048576) (d : Nat) : ∀ (k i : Nat), i ≤ a.length → a.length - i = d → d < k → (∀ j, j < i → a[j]? = b[j]?) →
    laws_eqIntS.l0 k a b (i : Int) = some (decide (a = b)) := by
  induction d with
  | zero =>
    intro k i hi hd hk ht
    obtain ⟨k, rfl⟩ := pred_of_lt hk
    simp only [laws_eqIntS.l0]; rw [if_neg (by omega)]
    have : a = b := List.ext_getElem? fun j => by
      by_cases hj : j < i
      · exact ht j hj
      · rw [List.getElem?_eq_none (by omega), List.getElem?_eq_none (by omega)]
    simp [this]
  | succ d ih =>
    intro k i hi hd hk ht
    obtain ⟨k, rfl⟩ := pred_of_lt hk
    simp only [laws_eqIntS.l0]; rw [if_pos (by omega), if_pos (by omega), if_pos (by omega), rd_get a i (by omega), rd_get b i (by omega)]
    by_cases hc : a[i]'(by omega) = b[i]'(by omega)
    · rw [if_pos hc, wr (by omega) (by omega)]
      have e : ((i : Int) + 1) = ((i + 1 : Nat) : Int) := by omega
      rw [e]
      refine ih k (i + 1) (by omega) (by omega) (by omega) fun j hj => ?_
      by_cases hji : j = i
      · subst hji
        rw [List.getElem?_eq_getElem (by omega), List.getElem?_eq_getElem (by omega), hc]
      · exact ht j (by omega)
    · rw [if_neg hc]
      have : ¬ a = b := fun e => hc (by subst e; rfl)
      simp [this]
theorem eqIntS_eq (a b : List Int) (ha : a.length ≤ 1048576) (k : Nat) (hk : a.length < k) : laws_eqIntS.f k a b = some (decide (a = b)) := by
  unfold laws_eqIntS.f
  by_cases h : (a.length : Int) = (b.length : Int)
  · rw [if_pos h]
    exact eqIntS_l0 a b (by omega) ha a.length k 0 (by omega) (by omega) hk (fun j hj => by omega)
  · rw [if_neg h]
    have : ¬ a = b := fun e => h (by rw [e])
    simp [this]
theorem eqIntS_self (a : List Int) (ha : a.length ≤ 1048576) (k : Nat) (hk : a.length < k) : laws_eqIntS.f k a a = some true := by
  rw [eqIntS_eq a a ha k hk]; simp
def seqI (a : Int) (n : Nat) : List Int := (List.range n).map fun (j : Nat) => a + (j : Int)
theorem seqI_len (a : Int) (n : Nat) : (seqI a n).length = n := by simp [seqI]
theorem seqI_get (a : Int) (n j : Nat) (h : j < n) : (seqI a n)[j]? = some (a + (j : Int)) := by simp [seqI, h]
theorem markIntS_l0 (a : Int) (h0 : 0 ≤ a) (h1 : a ≤ 1048576) (n : Nat) (hn : n ≤ 1048576) (d : Nat) : ∀ (k i : Nat) (x0 : List Int), x0.length = n → i ≤ n → n - i = d → d < k → (∀ j, j < i → x0[j]? = some (a + (j : Int))) →
    laws_markIntS.l0 k x0 (a + (i : Int)) (i : Int) = some (a + (n : Int), seqI a n) := by
  induction d with
  | zero =>
    intro k i x0 hl hi hd hk ht
    obtain ⟨k, rfl⟩ := pred_of_lt hk
    simp only [laws_markIntS.l0]; rw [if_neg (by omega)]
    have hin : i = n := by omega
    have : x0 = seqI a n := List.ext_getElem? fun j => by
      by_cases hj : j < i
      · rw [ht j hj, seqI_get a n j (by omega)]
      · rw [List.getElem?_eq_none (by omega), List.getElem?_eq_none (by rw [seqI_len]; omega)]
    rw [this, hin]
  | succ d ih =>
    intro k i x0 hl hi hd hk ht
    obtain ⟨k, rfl⟩ := pred_of_lt hk
    simp only [laws_markIntS.l0]; rw [if_pos (by omega), if_pos (by omega), wr (by omega) (by omega), wr (by omega) (by omega)]
    have e : ((i : Int) + 1) = ((i + 1 : Nat) : Int) := by omega
    have e2 : a + (i : Int) + 1 = a + ((i + 1 : Nat) : Int) := by omega
    rw [e2, e, Int.toNat_natCast]
    refine ih k (i + 1) _ (by simpa using hl) (by omega) (by omega) (by omega) fun j hj => ?_
    rw [List.getElem?_set]
    by_cases hji : i = j
    · subst hji
      simp [show i < x0.length by omega]
    · rw [if_neg hji]; exact ht j (by omega)
theorem markIntS_eq (l : List Int) (a : Int) (h0 : 0 ≤ a) (h1 : a ≤ 1048576) (h : l.length ≤ 1048576) (k : Nat) (hk : l.length < k) : laws_markIntS.f k l a = some (a + (l.length : Int), seqI a l.length) := by
  unfold laws_markIntS.f
  have := markIntS_l0 a h0 h1 l.length h l.length k 0 l rfl (by omega) (by omega) hk (fun j hj => by omega)
  simpa using this
theorem heldIntS_l0 (a : Int) (h0 : 0 ≤ a) (h1 : a ≤ 1048576) (n : Nat) (hn : n ≤ 1048576) (d : Nat) : ∀ (k i : Nat), i ≤ n → n - i = d → d < k → laws_heldIntS.l0 k (seqI a n) (a + (i : Int)) (i : Int) = some (a + (n : Int)) := by
  induction d with
  | zero =>
    intro k i hi hd hk
    obtain ⟨k, rfl⟩ := pred_of_lt hk
    simp only [laws_heldIntS.l0]; rw [seqI_len, if_neg (by omega), show i = n by omega]
  | succ d ih =>
    intro k i hi hd hk
    obtain ⟨k, rfl⟩ := pred_of_lt hk
    simp only [laws_heldIntS.l0]; rw [seqI_len, if_pos (by omega), if_pos (by omega), if_pos, wr (by omega) (by omega), wr (by omega) (by omega)]
    · have e : ((i : Int) + 1) = ((i + 1 : Nat) : Int) := by omega
      have e2 : a + (i : Int) + 1 = a + ((i + 1 : Nat) : Int) := by omega
      rw [e2, e]
      exact ih k (i + 1) (by omega) (by omega) (by omega)
    · have := seqI_get a n i (by omega)
      rw [rd_nat, List.getD_eq_getElem?_getD, this]; rfl
theorem heldIntS_eq (a : Int) (h0 : 0 ≤ a) (h1 : a ≤ 1048576) (n : Nat) (hn : n ≤ 1048576) (k : Nat) (hk : n < k) : laws_heldIntS.f k (seqI a n) a = some (a + (n : Int)) := by
  unfold laws_heldIntS.f
  have := heldIntS_l0 a h0 h1 n hn n k 0 (by omega) (by omega) hk
  simpa using this
/-! marks that are laid into a list of texts and found again -/
theorem strNum_size (n : Int) : (strOfNums [n]).size = 1 := rfl
theorem markText_l0 (f : Nat) : ∀ (a : Int) (x : ByteArray), 0 ≤ a → a < 10 ^ f → a ≤ 1000000000 → x.size + f ≤ 1000 → ∃ r, ∀ k, f < k → laws_markText.l0 k a x = some r := by
  induction f with
  | zero =>
    intro a x h0 h1 h2 hx
    refine ⟨(⟨#[109]⟩ : ByteArray) ++ x, fun k hk => ?_⟩
    obtain ⟨k, rfl⟩ := pred_of_lt hk
    simp only [laws_markText.l0]
    rw [if_neg (by simp at h1; omega), if_pos (by omega)]
  | succ f ih =>
    intro a x h0 h1 h2 hx
    by_cases hp : a > 0
    · have hq : Int.tdiv a 10 = a / 10 := Int.tdiv_eq_ediv_of_nonneg h0
      have hlt : a / 10 < 10 ^ f := by
        rw [Int.pow_succ] at h1
        exact Int.ediv_lt_of_lt_mul (by decide) h1
      obtain ⟨r, hr⟩ := ih (a / 10) (strOfNums [(wrap64 (48 + (Int.tmod a 10))) % 256] ++ x) (by omega) hlt (by omega) (by rw [ByteArray.size_append, strNum_size]; omega)
      refine ⟨r, fun k hk => ?_⟩
      obtain ⟨k, rfl⟩ := pred_of_lt hk
      simp only [laws_markText.l0]
      rw [if_pos hp]
      simp only [Option.bind_some]
      rw [if_pos (by rw [strNum_size]; omega), hq, wr (i := a / 10) (by omega) (by omega)]
      exact hr k (by omega)
    · refine ⟨(⟨#[109]⟩ : ByteArray) ++ x, fun k hk => ?_⟩
      obtain ⟨k, rfl⟩ := pred_of_lt hk
      simp only [laws_markText.l0]
      rw [if_neg hp, if_pos (by omega)]
theorem markText_ex (a : Int) (h0 : 0 ≤ a) (h1 : a ≤ 100000000) : ∃ r, ∀ k, 9 < k → laws_markText.f k a = some r := by
  unfold laws_markText.f
  by_cases h : a ≤ 0
  · exact ⟨_, fun k hk => by rw [if_pos h]⟩
  · obtain ⟨r, hr⟩ := markText_l0 9 a (⟨#[]⟩ : ByteArray) h0 (by omega) (by omega) (by show 0 + 9 ≤ 1000; omega)
    exact ⟨r, fun k hk => by rw [if_neg h]; exact hr k hk⟩
def mt (a : Int) : ByteArray := (laws_markText.f 10 a).getD ByteArray.empty
theorem markText_eq (a : Int) (h0 : 0 ≤ a) (h1 : a ≤ 100000000) (k : Nat) (hk : 9 < k) : laws_markText.f k a = some (mt a) := by
  obtain ⟨r, hr⟩ := markText_ex a h0 h1
  unfold mt
  rw [hr k hk, hr 10 (by omega)]; rfl
def seqS (a : Int) (n : Nat) : List ByteArray := (List.range n).map fun (j : Nat) => mt (a + (j : Int))
theorem seqS_len (a : Int) (n : Nat) : (seqS a n).length = n := by simp [seqS]
theorem seqS_get (a : Int) (n j : Nat) (h : j < n) : (seqS a n)[j]? = some (mt (a + (j : Int))) := by simp [seqS, h]
theorem markStringS_l0 (a : Int) (h0 : 0 ≤ a) (h1 : a ≤ 10000000) (n : Nat) (hn : n ≤ 10000000) (d : Nat) : ∀ (k i : Nat) (x0 : List ByteArray), x0.length = n → i ≤ n → n - i = d → d + 10 < k → (∀ j, j < i → x0[j]? = some (mt (a + (j : Int)))) →
    laws_markStringS.l0 k x0 (a + (i : Int)) (i : Int) = some (a + (n : Int), seqS a n) := by
  induction d with
  | zero =>
    intro k i x0 hl hi hd hk ht
    obtain ⟨k, rfl⟩ := pred_of_lt hk
    simp only [laws_markStringS.l0]; rw [if_neg (by omega)]
    have hin : i = n := by omega
    have : x0 = seqS a n := List.ext_getElem? fun j => by
      by_cases hj : j < i
      · rw [ht j hj, seqS_get a n j (by omega)]
      · rw [List.getElem?_eq_none (by omega), List.getElem?_eq_none (by rw [seqS_len]; omega)]
    rw [this, hin]
  | succ d ih =>
    intro k i x0 hl hi hd hk ht
    obtain ⟨k, rfl⟩ := pred_of_lt hk
    simp only [laws_markStringS.l0]; rw [if_pos (by omega), markText_eq _ (by omega) (by omega) k (by omega)]
    simp only [Option.bind_some]
    rw [if_pos (by omega), wr (by omega) (by omega), wr (by omega) (by omega)]
    have e : ((i : Int) + 1) = ((i + 1 : Nat) : Int) := by omega
    have e2 : a + (i : Int) + 1 = a + ((i + 1 : Nat) : Int) := by omega
    rw [e2, e, Int.toNat_natCast]
    refine ih k (i + 1) _ (by simpa using hl) (by omega) (by omega) (by omega) fun j hj => ?_
    rw [List.getElem?_set]
    by_cases hji : i = j
    · subst hji
      simp [show i < x0.length by omega]
    · rw [if_neg hji]; exact ht j (by omega)
theorem markStringS_eq (l : List ByteArray) (a : Int) (h0 : 0 ≤ a) (h1 : a ≤ 10000000) (h : l.length ≤ 10000000) (k : Nat) (hk : l.length + 10 < k) : laws_markStringS.f k l a = some (a + (l.length : Int), seqS a l.length) := by
  unfold laws_markStringS.f
  have := markStringS_l0 a h0 h1 l.length h l.length k 0 l rfl (by omega) (by omega) hk (fun j hj => by omega)
  simpa using this
/-! counting paths by their first step is counting them by their last step -/
def sm {α : Type} (f : α → Int) : List α → Int
  | [] => 0
  | c :: l => f c + sm f l
theorem sm_congr {α : Type} (f g : α → Int) : ∀ (l : List α), (∀ c ∈ l, f c = g c) → sm f l = sm g l
  | [], _ => rfl
  | c :: l, h => by simp only [sm]; rw [h c (by simp), sm_congr f g l (fun d hd => h d (by simp [hd]))]
theorem sm_zero {α : Type} (f : α → Int) (l : List α) (h : ∀ c ∈ l, f c = 0) : sm f l = 0 := by
  induction l with
  | nil => rfl
  | cons c l ih => simp only [sm]; rw [h c (by simp), ih (fun d hd => h d (by simp [hd]))]; rfl
theorem sm_add {α : Type} (f g : α → Int) : ∀ (l : List α), sm (fun c => f c + g c) l = sm f l + sm g l
  | [] => rfl
  | c :: l => by simp only [sm]; rw [sm_add f g l]; omega
theorem sm_sub {α : Type} (f g : α → Int) : ∀ (l : List α), sm (fun c => f c - g c) l = sm f l - sm g l
  | [] => rfl
  | c :: l => by simp only [sm]; rw [sm_sub f g l]; omega
theorem sm_swap {α β : Type} (f : α → β → Int) (m : List β) : ∀ (l : List α), sm (fun c => sm (fun d => f c d) m) l = sm (fun d => sm (fun c => f c d) l) m
  | [] => by simp only [sm]; exact (sm_zero _ m (fun _ _ => rfl)).symm
  | c :: l => by simp only [sm]; rw [sm_swap f m l, sm_add]
theorem sm_ite {α : Type} (p : Bool) (f : α → Int) (l : List α) : (if p = true then sm f l else 0) = sm (fun d => if p = true then f d else 0) l := by
  cases p
  · simp only [Bool.false_eq_true, if_false]; exact (sm_zero _ l (fun _ _ => rfl)).symm
  · simp only [if_true]
def one (p : Prop) [Decidable p] : Int := if p then 1 else 0
/-- the letters that end at j, by the ways to what is ahead of them -/
def ends {α : Type} (sz : α → Nat) (B : Nat → α → Bool) (j : Nat) (d : α) : Bool := decide (sz d ≤ j) && B (j - sz d) d
theorem first_last {α : Type} (l : List α) (sz : α → Nat) (hsz : ∀ c ∈ l, 1 ≤ sz c) (B : Nat → α → Bool) (T : Nat → Nat → Int) (n : Nat)
    (h1 : ∀ j, j ≤ n → T j j = 1) (h0 : ∀ j i, j ≤ n → j < i → T j i = 0) (hs : ∀ j i, j ≤ n → i < j → T j i = sm (fun c => if B i c = true then T j (i + sz c) else 0) l) :
    ∀ (m j i : Nat), j - i = m → j ≤ n → i < j → T j i = sm (fun d => if ends sz B j d = true then T (j - sz d) i else 0) l := by
  intro m
  induction m using Nat.strongRecOn with
  | _ m ih =>
    intro j i hm hj hij
    have step : ∀ c ∈ l, T j (i + sz c) = one (i + sz c = j) + sm (fun d => if ends sz B j d = true then T (j - sz d) (i + sz c) else 0) l := by
      intro c hc
      have hc1 := hsz c hc
      by_cases e : i + sz c < j
      · have := ih (j - (i + sz c)) (by omega) j (i + sz c) rfl hj e
        rw [this]
        unfold one
        rw [if_neg (by omega), Int.zero_add]
      · rw [sm_zero]
        · unfold one
          by_cases e2 : i + sz c = j
          · rw [e2, h1 j hj, if_pos rfl]; rfl
          · rw [if_neg e2, h0 j _ hj (by omega)]; rfl
        · intro d hd
          have := hsz d hd
          split
          · exact h0 _ _ (by omega) (by omega)
          · rfl
    have inner : ∀ d ∈ l, sm (fun c => if B i c = true then (if ends sz B j d = true then T (j - sz d) (i + sz c) else 0) else 0) l = (if ends sz B j d = true then T (j - sz d) i else 0) - one (B i d = true ∧ i + sz d = j) := by
      intro d hd
      have hd1 := hsz d hd
      by_cases he : ends sz B j d = true
      · simp only [he, if_true]
        simp only [ends, Bool.and_eq_true, decide_eq_true_eq] at he
        by_cases hlt : i < j - sz d
        · have : one (B i d = true ∧ i + sz d = j) = 0 := by unfold one; rw [if_neg (by omega)]
          rw [this, hs (j - sz d) i (by omega) hlt, Int.sub_zero]
        · rw [sm_zero]
          · by_cases e2 : i = j - sz d
            · have : one (B i d = true ∧ i + sz d = j) = 1 := by
                unfold one
                rw [if_pos ⟨by rw [e2]; exact he.2, by omega⟩]
              rw [this, ← e2, h1 i (by omega)]; rfl
            · have : one (B i d = true ∧ i + sz d = j) = 0 := by unfold one; rw [if_neg (by omega)]
              rw [this, h0 (j - sz d) i (by omega) (by omega)]; rfl
          · intro c hc
            have := hsz c hc
            split
            · exact h0 _ _ (by omega) (by omega)
            · rfl
      · have : one (B i d = true ∧ i + sz d = j) = 0 := by
          unfold one
          rw [if_neg]
          rintro ⟨a, b⟩
          apply he
          simp only [ends, Bool.and_eq_true, decide_eq_true_eq]
          exact ⟨by omega, by rw [show j - sz d = i by omega]; exact a⟩
        rw [this, if_neg he]
        rw [sm_zero]
        · rfl
        · intro c _
          rw [if_neg he]
          split <;> rfl
    rw [hs j i hj hij]
    have e1 : sm (fun c => if B i c = true then T j (i + sz c) else 0) l = sm (fun c => one (B i c = true ∧ i + sz c = j) + sm (fun d => if B i c = true then (if ends sz B j d = true then T (j - sz d) (i + sz c) else 0) else 0) l) l := by
      refine sm_congr _ _ l fun c hc => ?_
      by_cases hb : B i c = true
      · simp only [hb, if_true, true_and]
        exact step c hc
      · rw [if_neg hb, sm_zero _ l (fun _ _ => if_neg hb)]
        unfold one
        rw [if_neg (fun h => hb h.1)]; rfl
    rw [e1, sm_add, sm_swap, sm_congr _ _ l inner, sm_sub]
    omega
/-! in how many ways the beginnings of a text of marks are read -/
theorem fits_pre (s c : ByteArray) (j i : Nat) (hj : j ≤ s.size) : fits (s.extract 0 j) c i = (decide (i + c.size ≤ j) && fits s c i) := by
  have hz : (s.extract 0 j).size = j := by rw [ByteArray.size_extract, Nat.min_eq_left hj, Nat.sub_zero]
  unfold fits
  rw [hz]
  by_cases h : i + c.size ≤ j
  · rw [ByteArray.extract_extract, Nat.zero_add, Nat.zero_add, Nat.min_eq_left h]
    simp only [h, decide_true, Bool.true_and, show i + c.size ≤ s.size by omega]
  · simp only [h, decide_false, Bool.false_and]
def preW (l : List ByteArray) (s : ByteArray) (j i : Nat) : Int := if i ≤ j then rd (waysL l (s.extract 0 j)) (i : Int) else 0
theorem gains_sm (s : ByteArray) (i : Nat) (x : List Int) : ∀ (l : List ByteArray), gains s i x l = sm (gain s i x) l
  | [] => rfl
  | c :: l => by simp only [gains, sm]; rw [gains_sm s i x l]
theorem pre_inv (l : List ByteArray) (s : ByteArray) (hs : s.size ≤ 60) (h : isTab l = true) (j : Nat) (hj : j ≤ s.size) : (s.extract 0 j).size = j ∧ WInv l (s.extract 0 j) 0 (waysL l (s.extract 0 j)) := by
  have hz : (s.extract 0 j).size = j := by rw [ByteArray.size_extract, Nat.min_eq_left hj, Nat.sub_zero]
  exact ⟨hz, ways_inv l _ (by omega) h⟩
theorem pre_last (l : List ByteArray) (s : ByteArray) (hs : s.size ≤ 60) (h : isTab l = true) (j : Nat) (hj : j ≤ s.size) (h0 : 0 < j) :
    preW l s j 0 = sm (fun d => if ends ByteArray.size (fun i c => fits s c i) j d = true then preW l s (j - d.size) 0 else 0) l := by
  obtain ⟨hmem, _, _, _⟩ := isTab_mem l h
  refine first_last l ByteArray.size (fun c hc => (hmem c hc).1) (fun i c => fits s c i) (preW l s) s.size (fun j hj => ?_) (fun j i hj hi => ?_) (fun j i hj hi => ?_) j j 0 (by omega) hj h0
  · obtain ⟨hz, w⟩ := pre_inv l s hs h j hj
    have := w.last
    rw [hz] at this
    unfold preW
    rw [if_pos (Nat.le_refl _), this]
  · unfold preW
    rw [if_neg (by omega)]
  · obtain ⟨hz, w⟩ := pre_inv l s hs h j hj
    have := w.sum i (by omega) (by omega)
    rw [gains_sm] at this
    rw [show preW l s j i = rd (waysL l (s.extract 0 j)) (i : Int) by unfold preW; rw [if_pos (by omega)], this]
    refine sm_congr _ _ l fun c hc => ?_
    unfold gain preW
    rw [fits_pre s c j i hj]
    by_cases hf : fits s c i = true
    · by_cases hl : i + c.size ≤ j
      · simp only [hf, hl, decide_true, Bool.and_self, if_true]
      · simp only [hf, hl, decide_false, Bool.false_and, Bool.false_eq_true, if_true, if_false]
    · simp only [(Bool.not_eq_true _).mp hf, Bool.and_false, Bool.false_eq_true, if_false]
theorem pre_bnd (l : List ByteArray) (s : ByteArray) (hs : s.size ≤ 60) (h : isTab l = true) (j : Nat) (hj : j ≤ s.size) : 0 ≤ preW l s j 0 ∧ preW l s j 0 ≤ ((2 ^ j : Nat) : Int) := by
  obtain ⟨hz, w⟩ := pre_inv l s hs h j hj
  have := w.bnd 0 (by omega) (by omega)
  rw [hz, Nat.sub_zero] at this
  unfold preW
  rw [if_pos (by omega)]
  exact this
theorem pre_zero (l : List ByteArray) (s : ByteArray) (hs : s.size ≤ 60) (h : isTab l = true) : preW l s 0 0 = 1 := by
  obtain ⟨hz, w⟩ := pre_inv l s hs h 0 (by omega)
  have := w.last
  rw [hz] at this
  unfold preW
  rw [if_pos (Nat.le_refl _), this]
/-! the reference's counts go on from each place to the places behind the letters that stand there -/
def fput (s : ByteArray) (x : Nat) (c : ByteArray) (a : List Int) : List Int := if fits s c x = true then a.set (x + c.size) (wrap64 (rd a ((x + c.size : Nat) : Int) + rd a (x : Int))) else a
def fstep (s : ByteArray) (x : Nat) (l : List ByteArray) (a : List Int) : List Int := l.foldl (fun a c => fput s x c a) a
theorem fput_len (s : ByteArray) (x : Nat) (c : ByteArray) (a : List Int) : (fput s x c a).length = a.length := by unfold fput; split <;> simp
theorem fstep_len (s : ByteArray) (x : Nat) (l : List ByteArray) : ∀ a, (fstep s x l a).length = a.length := by
  unfold fstep
  induction l with
  | nil => intro a; rfl
  | cons c l ih => intro a; rw [List.foldl_cons, ih, fput_len]
theorem fstep_drop (s : ByteArray) (x : Nat) (l : List ByteArray) (j : Nat) (h : j < l.length) (a : List Int) : fstep s x (l.drop j) a = fstep s x (l.drop (j + 1)) (fput s x l[j] a) := by
  rw [drop_cons l j h]; rfl
theorem wrap_add (a b : Int) : wrap64 (wrap64 a + b) = wrap64 (a + b) := by unfold wrap64; omega
theorem fstep_rd (s : ByteArray) (x : Nat) (p : Int) : ∀ (l : List ByteArray) (a : List Int) (S : Nat → Int), (∀ c ∈ l, 1 ≤ c.size) → a.length = s.size + 1 → rd a (x : Int) = p → (∀ j, j ≤ s.size → rd a (j : Int) = wrap64 (S j)) →
    ∀ j, j ≤ s.size → rd (fstep s x l a) (j : Int) = wrap64 (S j + sm (fun c => if fits s c x = true ∧ x + c.size = j then p else 0) l)
  | [], a, S, _, _, _, h, j, hj => by
    simp only [sm, Int.add_zero]; exact h j hj
  | c :: l, a, S, hc, ha, hp, h, j, hj => by
    have hc1 := hc c (by simp)
    have st : ∀ i, i ≤ s.size → rd (fput s x c a) (i : Int) = wrap64 (S i + (if fits s c x = true ∧ x + c.size = i then p else 0)) := by
      intro i hi
      unfold fput
      by_cases hf : fits s c x = true
      · rw [if_pos hf, rd_set]
        by_cases e : x + c.size = i
        · rw [if_pos ⟨e, by omega⟩, if_pos ⟨hf, e⟩, e, hp, h i hi, wrap_add]
        · rw [if_neg (fun q => e q.1), if_neg (fun q => e q.2), Int.add_zero, h i hi]
      · rw [if_neg hf, if_neg (fun q => hf q.1), Int.add_zero, h i hi]
    have hp2 : rd (fput s x c a) (x : Int) = p := by
      unfold fput
      split
      · rw [rd_set, if_neg (by omega), hp]
      · exact hp
    have r := fstep_rd s x p l (fput s x c a) (fun i => S i + (if fits s c x = true ∧ x + c.size = i then p else 0)) (fun d hd => hc d (by simp [hd])) (by rw [fput_len]; exact ha) hp2 st j hj
    show rd (fstep s x l (fput s x c a)) (j : Int) = _
    rw [r]
    simp only [sm]
    rw [Int.add_assoc]
def fall (s : ByteArray) (l : List ByteArray) : Nat → Nat → List Int → List Int
  | 0, _, a => a
  | d + 1, x, a => fall s l d (x + 1) (fstep s x l a)
theorem fall_len (s : ByteArray) (l : List ByteArray) : ∀ d x a, (fall s l d x a).length = a.length
  | 0, _, a => rfl
  | d + 1, x, a => by rw [fall, fall_len s l d, fstep_len]
/-- what the reference has counted of a place when it has come to the place x -/
def upTo (l : List ByteArray) (s : ByteArray) (x j : Nat) : Int := if j = 0 then 1 else sm (fun d => if ends ByteArray.size (fun i c => fits s c i) j d = true ∧ j - d.size < x then preW l s (j - d.size) 0 else 0) l
theorem upTo_all (l : List ByteArray) (s : ByteArray) (hs : s.size ≤ 60) (h : isTab l = true) (x j : Nat) (hj : j ≤ s.size) (hx : j ≤ x) : upTo l s x j = preW l s j 0 := by
  obtain ⟨hmem, _, _, _⟩ := isTab_mem l h
  unfold upTo
  by_cases h0 : j = 0
  · subst h0; rw [if_pos rfl, pre_zero l s hs h]
  · rw [if_neg h0, pre_last l s hs h j hj (by omega)]
    refine sm_congr _ _ l fun d hd => ?_
    have := (hmem d hd).1
    have : j - d.size < x := by omega
    simp only [this, and_true]
theorem upTo_step (l : List ByteArray) (s : ByteArray) (h : isTab l = true) (x j : Nat) : upTo l s x j + sm (fun c => if fits s c x = true ∧ x + c.size = j then preW l s x 0 else 0) l = upTo l s (x + 1) j := by
  obtain ⟨hmem, _, _, _⟩ := isTab_mem l h
  unfold upTo
  by_cases h0 : j = 0
  · rw [if_pos h0, if_pos h0, sm_zero]
    · rfl
    · intro c hc
      have := (hmem c hc).1
      rw [if_neg (by omega)]
  · rw [if_neg h0, if_neg h0, ← sm_add]
    refine sm_congr _ _ l fun d hd => ?_
    have hd1 := (hmem d hd).1
    by_cases he : ends ByteArray.size (fun i c => fits s c i) j d = true
    · have he2 := he
      simp only [ends, Bool.and_eq_true, decide_eq_true_eq] at he2
      by_cases e : j - d.size = x
      · rw [if_neg (by omega), if_pos ⟨by rw [← e]; exact he2.2, by omega⟩, if_pos ⟨he, by omega⟩, e, Int.zero_add]
      · rw [if_neg (fun q : fits s d x = true ∧ x + d.size = j => e (by omega)), Int.add_zero]
        by_cases e2 : j - d.size < x
        · rw [if_pos ⟨he, e2⟩, if_pos ⟨he, by omega⟩]
        · rw [if_neg (fun q => e2 q.2), if_neg (fun q => by omega)]
    · simp only [he, false_and, if_false, Int.zero_add, Bool.false_eq_true]
      rw [if_neg]
      rintro ⟨a, b⟩
      apply he
      simp only [ends, Bool.and_eq_true, decide_eq_true_eq]
      exact ⟨by omega, by rw [show j - d.size = x by omega]; exact a⟩
theorem fall_rd (l : List ByteArray) (s : ByteArray) (hs : s.size ≤ 60) (h : isTab l = true) : ∀ (d x : Nat) (a : List Int), x + d ≤ s.size → a.length = s.size + 1 → (∀ j, j ≤ s.size → rd a (j : Int) = wrap64 (upTo l s x j)) →
    ∀ j, j ≤ s.size → rd (fall s l d x a) (j : Int) = wrap64 (upTo l s (x + d) j)
  | 0, x, a, _, _, h, j, hj => h j hj
  | d + 1, x, a, hx, ha, hi, j, hj => by
    obtain ⟨hmem, _, _, _⟩ := isTab_mem l h
    have hp : rd a (x : Int) = preW l s x 0 := by
      have b := pre_bnd l s hs h x (by omega)
      have p : 2 ^ x ≤ 2 ^ 60 := Nat.pow_le_pow_right (by omega) (by omega)
      rw [hi x (by omega), upTo_all l s hs h x x (by omega) (Nat.le_refl _), wr (by omega) (by omega)]
    have r := fstep_rd s x (preW l s x 0) l a (upTo l s x) (fun c hc => (hmem c hc).1) ha hp hi
    have := fall_rd l s hs h d (x + 1) (fstep s x l a) (by omega) (by rw [fstep_len]; exact ha) (fun j hj => by rw [r j hj, upTo_step l s h]) j hj
    rw [fall, this, show x + 1 + d = x + (d + 1) by omega]
def aheadL (l : List ByteArray) (s : ByteArray) : List Int := fall s l s.size 0 ((List.replicate (s.size + 1) (0 : Int)).set 0 1)
theorem ahead_rd (l : List ByteArray) (s : ByteArray) (hs : s.size ≤ 60) (h : isTab l = true) (j : Nat) (hj : j ≤ s.size) : rd (aheadL l s) (j : Int) = preW l s j 0 := by
  have b := pre_bnd l s hs h j hj
  have p : 2 ^ j ≤ 2 ^ 60 := Nat.pow_le_pow_right (by omega) (by omega)
  have r := fall_rd l s hs h s.size 0 ((List.replicate (s.size + 1) (0 : Int)).set 0 1) (by omega) (by simp) (fun j hj => by
    rw [rd_set]
    unfold upTo
    by_cases e : j = 0
    · subst e
      rw [if_pos ⟨rfl, by simp⟩, if_pos rfl, wr (by omega) (by omega)]
    · rw [if_neg (by omega), if_neg e, sm_zero _ l (fun c _ => if_neg (by omega)), wr (by omega) (by omega), rd_nat, List.getD_eq_getElem?_getD, List.getElem?_replicate]
      split <;> rfl) j hj
  unfold aheadL
  rw [r, Nat.zero_add, upTo_all l s hs h s.size j hj (by omega), wr (by omega) (by omega)]
/-! the borders, counted by the reference and by the program -/
theorem sB_l1 (s : ByteArray) (hs : s.size ≤ 1048576) (w : List Int) (l : List ByteArray) (hl : l.length ≤ 1048576) (hc : ∀ c ∈ l, c.size ≤ 1048576) (i : Nat) (hi : i < s.size) (k d : Nat) : ∀ (m j : Nat) (x : List Int), m = k + d + 1 → j ≤ l.length → l.length - j = d → x.length = s.size + 1 →
    spec_l3Borders.l1 m s w x (i : Int) (j : Int) l = spec_l3Borders.l0 k s w (fstep s i (l.drop j) x) ((i + 1 : Nat) : Int) l := by
  induction d with
  | zero =>
    intro m j x hm hj hd hx
    subst hm
    have e : wrap64 ((i : Int) + 1) = ((i + 1 : Nat) : Int) := by rw [wr (by omega) (by omega)]; omega
    simp only [spec_l3Borders.l1, Nat.add_zero, e]; clear e; rw [if_neg (by omega), show j = l.length by omega, List.drop_length]; rfl
  | succ d ih =>
    intro m j x hm hj hd hx
    obtain ⟨m, rfl⟩ : ∃ m', m = m' + 1 := ⟨k + d + 1, by omega⟩
    have hlt : j < l.length := by omega
    obtain ⟨c, hcj, hget, hdrop⟩ : ∃ c : ByteArray, c.size ≤ 1048576 ∧ rdOf ByteArray.empty l (j : Int) = c ∧ fstep s i (l.drop j) x = fstep s i (l.drop (j + 1)) (fput s i c x) := ⟨l[j], hc _ (List.getElem_mem hlt), rdS_get l j hlt, fstep_drop s i l j hlt x⟩
    have n := ih m (j + 1) (fput s i c x) (Nat.succ.inj hm) hlt (by rw [Nat.sub_add_eq, hd]; rfl) ((fput_len s i c x).trans hx)
    have c1 : (j : Int) < (l.length : Int) := by omega
    have c2 : (0 : Int) ≤ (j : Int) := by omega
    have c3 : (0 : Int) ≤ (i : Int) := by omega
    have c4 : (i : Int) < (x.length : Int) := by omega
    have hi' : i ≤ s.size := by omega
    have e1 : wrap64 ((j : Int) + 1) = ((j + 1 : Nat) : Int) := by rw [wr (by omega) (by omega)]; omega
    have e2 : wrap64 ((i : Int) + (c.size : Int)) = ((i + c.size : Nat) : Int) := by clear e1; rw [wr (by omega) (by omega)]; omega
    rw [hdrop]
    simp only [spec_l3Borders.l1, c1, c2, c3, c4, if_true, hget, stands_eq s c i hs hcj hi', Option.bind_some, e1, e2]
    clear e1 e2
    by_cases hf : fits s c i = true
    · have hle : i + c.size ≤ s.size := fits_le s c i hf
      rw [if_pos hf, if_pos (by omega), if_pos (by omega), ← n]
      unfold fput
      rw [if_pos hf, Int.toNat_natCast]
    · rw [if_neg hf, ← n]
      unfold fput
      rw [if_neg hf]
theorem sB_l0 (s : ByteArray) (hs : s.size ≤ 1048576) (w : List Int) (l : List ByteArray) (hl : l.length ≤ 1048576) (hc : ∀ c ∈ l, c.size ≤ 1048576) (k : Nat) : ∀ (d i : Nat) (x : List Int), i + d = s.size → x.length = s.size + 1 →
    spec_l3Borders.l0 (k + d * (l.length + 2) + 1) s w x (i : Int) l = spec_l3Borders.l2 k s w (fall s l d i x) 0
  | 0, i, x, hi, hx => by
    simp only [Nat.zero_mul, Nat.add_zero, spec_l3Borders.l0]; rw [if_neg (by omega)]; rfl
  | d + 1, i, x, hi, hx => by
    have ih := sB_l0 s hs w l hl hc k d (i + 1) (fstep s i l x) (by omega) (by rw [fstep_len]; exact hx)
    have st := sB_l1 s hs w l hl hc i (by omega) (k + d * (l.length + 2) + 1) l.length _ 0 x rfl (by omega) (by omega) hx
    rw [List.drop_zero, ih, Int.natCast_zero] at st
    rw [ways_fuel]
    simp only [spec_l3Borders.l0]; rw [if_pos (by omega), st]; rfl
def mulL (w : List Int) : Nat → Nat → List Int → List Int
  | 0, _, a => a
  | d + 1, j, a => mulL w d (j + 1) (a.set j (wrap64 (rd a (j : Int) * rd w (j : Int))))
theorem mulL_len (w : List Int) : ∀ d j a, (mulL w d j a).length = a.length
  | 0, _, a => rfl
  | d + 1, j, a => by rw [mulL, mulL_len w d]; simp
theorem mulL_rd (w : List Int) : ∀ (d j : Nat) (a : List Int) (i : Nat), j + d ≤ a.length → rd (mulL w d j a) (i : Int) = if j ≤ i ∧ i < j + d then wrap64 (rd a (i : Int) * rd w (i : Int)) else rd a (i : Int)
  | 0, j, a, i, _ => by rw [if_neg (by omega)]; rfl
  | d + 1, j, a, i, h => by
    rw [mulL, mulL_rd w d (j + 1) _ i (by rw [List.length_set]; omega), rd_set]
    by_cases e : j = i
    · subst e
      rw [if_neg (by omega), if_pos ⟨rfl, by omega⟩, if_pos (by omega)]
    · rw [show (if j = i ∧ i < a.length then wrap64 (rd a (j : Int) * rd w (j : Int)) else rd a (i : Int)) = rd a (i : Int) from if_neg (fun q => e q.1)]
      by_cases e2 : j + 1 ≤ i ∧ i < j + 1 + d
      · rw [if_pos e2, if_pos (by omega)]
      · rw [if_neg e2, if_neg (by omega)]
theorem sB_l2 (s : ByteArray) (hs : s.size ≤ 1048576) (w : List Int) (hw : w.length = s.size + 1) (d : Nat) : ∀ (k j : Nat) (a : List Int), j + d = s.size + 1 → d < k → a.length = s.size + 1 →
    spec_l3Borders.l2 k s w a (j : Int) = some (mulL w d j a, rd w 0) := by
  induction d with
  | zero =>
    intro k j a hj hk ha
    obtain ⟨k, rfl⟩ := pred_of_lt hk
    simp only [spec_l3Borders.l2]; rw [if_neg (by omega), if_pos (by omega)]; rfl
  | succ d ih =>
    intro k j a hj hk ha
    obtain ⟨k, rfl⟩ := pred_of_lt hk
    simp only [spec_l3Borders.l2]; rw [if_pos (by omega), if_pos (by omega), if_pos (by omega), if_pos (by omega), wr (i := (j : Int) + 1) (by omega) (by omega)]
    rw [show ((j : Int) + 1) = ((j + 1 : Nat) : Int) by omega, Int.toNat_natCast, ih k (j + 1) _ (by omega) (by omega) (by rw [List.length_set]; exact ha)]
    rfl
/-- how many readings have a border at a place -/
def brdAt (l : List ByteArray) (s : ByteArray) (j : Nat) : Int := preW l s j 0 * rd (waysL l s) (j : Int)
def bordL (l : List ByteArray) (s : ByteArray) : List Int := mulL (waysL l s) (s.size + 1) 0 (aheadL l s)
theorem aheadL_len (l : List ByteArray) (s : ByteArray) : (aheadL l s).length = s.size + 1 := by rw [aheadL, fall_len]; simp
theorem brdAt_bnd (l : List ByteArray) (s : ByteArray) (hs : s.size ≤ 60) (h : isTab l = true) (j : Nat) (hj : j ≤ s.size) : 0 ≤ brdAt l s j ∧ brdAt l s j ≤ 1152921504606846976 := by
  have b := pre_bnd l s hs h j hj
  have w := (ways_inv l s hs h).bnd j (by omega) hj
  unfold brdAt
  refine ⟨Int.mul_nonneg b.1 w.1, ?_⟩
  have m := Int.mul_le_mul b.2 w.2 w.1 (by omega)
  rw [← Int.natCast_mul, ← Nat.pow_add, show j + (s.size - j) = s.size by omega] at m
  have p : 2 ^ s.size ≤ 2 ^ 60 := Nat.pow_le_pow_right (by omega) (by omega)
  omega
theorem bordL_rd (l : List ByteArray) (s : ByteArray) (hs : s.size ≤ 60) (h : isTab l = true) (j : Nat) (hj : j ≤ s.size) : rd (bordL l s) (j : Int) = brdAt l s j := by
  have b := brdAt_bnd l s hs h j hj
  unfold bordL
  rw [mulL_rd _ _ _ _ _ (by rw [aheadL_len]; omega), if_pos (by omega), ahead_rd l s hs h j hj]
  show wrap64 (brdAt l s j) = _
  rw [wr (by omega) (by omega)]
theorem bordL_len (l : List ByteArray) (s : ByteArray) : (bordL l s).length = s.size + 1 := by rw [bordL, mulL_len, aheadL_len]
theorem l3Borders_eq (l : List ByteArray) (hl : l.length ≤ 1048576) (hc : ∀ c ∈ l, c.size ≤ 1048576) (s : ByteArray) (hs : s.size ≤ 1048576) (k : Nat) (hk : wfuel l s + s.size + 2 ≤ k) : spec_l3Borders.f k l s = some (bordL l s, rd (waysL l s) 0) := by
  obtain ⟨m, rfl, hm⟩ : ∃ m, k = m + s.size * (l.length + 2) + 1 ∧ s.size + 1 < m := ⟨k - wfuel l s, by unfold wfuel at *; omega, by omega⟩
  have e : wrap64 ((s.size : Int) + 1) = ((s.size + 1 : Nat) : Int) := by rw [wr (by omega) (by omega)]; omega
  have w := l3Ways_eq l hl hc s hs (m + s.size * (l.length + 2) + 1) (by unfold wfuel; omega)
  simp only [spec_l3Borders.f, w, e, Int.toNat_natCast, Option.bind_some, List.length_replicate]
  clear e w
  rw [if_pos (by omega), if_pos (by omega), if_pos (by omega)]
  have r := sB_l0 s hs (waysL l s) l hl hc m s.size 0 ((List.replicate (s.size + 1) (0 : Int)).set 0 1) (by omega) (by simp)
  rw [Int.natCast_zero] at r
  rw [show (0 : Int).toNat = 0 from rfl, r]
  have t := sB_l2 s hs (waysL l s) (waysL_len l s) (s.size + 1) m 0 (aheadL l s) (by omega) (by omega) (aheadL_len l s)
  rw [Int.natCast_zero] at t
  exact t
/-- the places at which something is so -/
def places (g : Nat → Bool) : Nat → Nat → List Int
  | 0, _ => []
  | d + 1, j => if g j = true then (j : Int) :: places g d (j + 1) else places g d (j + 1)
theorem places_len (g : Nat → Bool) : ∀ d j, (places g d j).length ≤ d
  | 0, _ => by simp [places]
  | d + 1, j => by
    have := places_len g d (j + 1)
    simp only [places]
    split
    · simp only [List.length_cons]; omega
    · omega
def isBrd (l : List ByteArray) (s : ByteArray) (all : Bool) (j : Nat) : Bool := decide (0 < rd (waysL l s) 0) && (decide (0 < brdAt l s j) && (!all || decide (brdAt l s j = rd (waysL l s) 0)))
theorem sPl_l0 (l : List ByteArray) (s : ByteArray) (hs : s.size ≤ 60) (h : isTab l = true) (all : Bool) (d : Nat) : ∀ (k j : Nat) (x : List Int), j + d = s.size + 1 → d < k → x.length + d ≤ 1000000 →
    spec_l3Places.l0 k all x (bordL l s) (rd (waysL l s) 0) (j : Int) = some (x ++ places (isBrd l s all) d j) := by
  have hbl := bordL_len l s
  induction d with
  | zero =>
    intro k j x hj hk hx
    obtain ⟨k, rfl⟩ := pred_of_lt hk
    simp only [spec_l3Places.l0, hbl]; rw [if_neg (by omega), places, List.append_nil]
  | succ d ih =>
    intro k j x hj hk hx
    obtain ⟨k, rfl⟩ := pred_of_lt hk
    have i1 := ih k (j + 1) x (by omega) (by omega) (by omega)
    have i2 := ih k (j + 1) (x ++ [(j : Int)]) (by omega) (by omega) (by rw [List.length_append]; simp only [List.length_cons, List.length_nil]; omega)
    have r := bordL_rd l s hs h j (by omega)
    have c1 : (j : Int) < ((s.size + 1 : Nat) : Int) := by omega
    have c2 : (0 : Int) ≤ (j : Int) := by omega
    have c3 : x.length < 17592186044416 := by omega
    have e1 : wrap64 ((j : Int) + 1) = ((j + 1 : Nat) : Int) := by rw [wr (by omega) (by omega)]; omega
    simp only [spec_l3Places.l0, hbl, c1, c2, c3, if_true, r, e1, i1, i2]
    clear e1
    have yes : isBrd l s all j = true → x ++ [(j : Int)] ++ places (isBrd l s all) d (j + 1) = x ++ places (isBrd l s all) (d + 1) j := fun q => by simp [places, q]
    have no : isBrd l s all j = false → x ++ places (isBrd l s all) d (j + 1) = x ++ places (isBrd l s all) (d + 1) j := fun q => by simp [places, q]
    by_cases a1 : 0 < rd (waysL l s) 0
    · rw [if_pos a1]
      by_cases a2 : 0 < brdAt l s j
      · rw [if_pos a2]
        by_cases a3 : all = true
        · by_cases a4 : brdAt l s j = rd (waysL l s) 0
          · rw [if_pos a3, if_pos a4, yes (by unfold isBrd; rw [decide_eq_true a1, decide_eq_true a2, decide_eq_true a4]; simp)]
          · rw [if_pos a3, if_neg a4, no (by unfold isBrd; rw [decide_eq_false a4, a3]; simp)]
        · rw [if_neg a3, yes (by unfold isBrd; rw [decide_eq_true a1, decide_eq_true a2, (Bool.not_eq_true _).mp a3]; simp)]
      · rw [if_neg a2, no (by unfold isBrd; rw [decide_eq_false a2]; simp)]
    · rw [if_neg a1, no (by unfold isBrd; rw [decide_eq_false a1]; simp)]
theorem so_eq (a b : Int) : impl_CertainBorders_1.f a b = some (!true || decide (a = b)) := by
  unfold impl_CertainBorders_1.f
  cases h : decide (a = b) <;> simp_all
theorem iPl_l0 (l : List ByteArray) (hl : l.length ≤ 1048576) (hc : ∀ c ∈ l, c.size ≤ 1048576) (s : ByteArray) (hs : s.size ≤ 60) (h : isTab l = true) (d : Nat) : ∀ (k j : Nat) (x : List Int), j + d = s.size + 1 → wfuel l s + d < k → x.length + d ≤ 1000000 →
    impl_borders.l0 k s (waysL l s) x ((s.size + 1 : Nat) : Int) (j : Int) l = some (x ++ places (isBrd l s true) d j, true) := by
  have hwl := waysL_len l s
  induction d with
  | zero =>
    intro k j x hj hk hx
    obtain ⟨k, rfl⟩ := pred_of_lt hk
    simp only [impl_borders.l0]; rw [if_neg (by omega), places, List.append_nil]
  | succ d ih =>
    intro k j x hj hk hx
    obtain ⟨k, rfl⟩ := pred_of_lt hk
    have hjs : j ≤ s.size := by omega
    have i1 := ih k (j + 1) x (by omega) (by omega) (by omega)
    have i2 := ih k (j + 1) (x ++ [(j : Int)]) (by omega) (by omega) (by rw [List.length_append]; simp only [List.length_cons, List.length_nil]; omega)
    have hz : (s.extract 0 j).size = j := by rw [ByteArray.size_extract, Nat.min_eq_left hjs, Nat.sub_zero]
    have hw := iWays_eq l hl hc (s.extract 0 j) (by omega) k (by
      have : wfuel l (s.extract 0 j) ≤ wfuel l s := by
        unfold wfuel
        rw [hz]
        have := Nat.mul_le_mul_right (l.length + 2) hjs
        omega
      omega)
    have hpl := waysL_len l (s.extract 0 j)
    rw [hz] at hpl
    have hp : rd (waysL l (s.extract 0 j)) 0 = preW l s j 0 := by unfold preW; rw [if_pos (by omega)]; rfl
    have bb := brdAt_bnd l s hs h j hjs
    have bp := pre_bnd l s hs h j hjs
    have bw := (ways_inv l s hs h).bnd j (by omega) hjs
    have p40 : 2 ^ j ≤ 2 ^ 60 := Nat.pow_le_pow_right (by omega) (by omega)
    have hm : wrap64 (preW l s j 0 * rd (waysL l s) (j : Int)) = brdAt l s j := by
      show wrap64 (brdAt l s j) = _
      rw [wr (by omega) (by omega)]
    have hmn : (wrap64 (preW l s j 0 * mn (rd (waysL l s) (j : Int)) 1) > 0) ↔ (0 < brdAt l s j) := by
      unfold mn
      by_cases hz : (1 : Int) < rd (waysL l s) (j : Int)
      · rw [if_pos hz, Int.mul_one, wr (by omega) (by omega)]
        unfold brdAt
        exact ⟨fun a => Int.mul_pos a (by omega), fun a => by
          rcases Int.lt_or_eq_of_le bp.1 with q | q
          · exact q
          · rw [← q, Int.zero_mul] at a; omega⟩
      · rw [if_neg hz, hm]
    have c1 : (j : Int) < ((s.size + 1 : Nat) : Int) := by omega
    have c2 : (0 : Int) ≤ (j : Int) := by omega
    have c3 : x.length < 17592186044416 := by omega
    have c4 : (j : Int) ≤ (s.size : Int) := by omega
    have c5 : (0 : Int) < ((j + 1 : Nat) : Int) := by omega
    have c6 : (0 : Int) < ((s.size + 1 : Nat) : Int) := by omega
    have e1 : wrap64 ((j : Int) + 1) = ((j + 1 : Nat) : Int) := by rw [wr (by omega) (by omega)]; omega
    simp only [impl_borders.l0, c1, c2, c3, c4, if_true, Int.toNat_natCast, hw, Option.bind_some, hpl, hwl, hp, c5, c6, e1, i1, i2, hm, so_eq]
    clear e1
    have yes : isBrd l s true j = true → x ++ [(j : Int)] ++ places (isBrd l s true) d (j + 1) = x ++ places (isBrd l s true) (d + 1) j := fun q => by simp [places, q]
    have no : isBrd l s true j = false → x ++ places (isBrd l s true) d (j + 1) = x ++ places (isBrd l s true) (d + 1) j := fun q => by simp [places, q]
    by_cases a2 : 0 < brdAt l s j
    · rw [if_pos (hmn.2 a2)]
      by_cases a1 : 0 < rd (waysL l s) 0
      · rw [if_pos a1]
        by_cases a3 : (!true || decide (brdAt l s j = rd (waysL l s) 0)) = true
        · rw [if_pos a3, yes (by unfold isBrd; rw [a3, decide_eq_true a1, decide_eq_true a2]; simp)]
        · rw [if_neg a3, no (by unfold isBrd; rw [(Bool.not_eq_true _).mp a3]; simp)]
      · rw [if_neg a1, no (by unfold isBrd; rw [decide_eq_false a1]; simp)]
    · rw [if_neg (fun q => a2 (hmn.1 q)), no (by unfold isBrd; rw [decide_eq_false a2]; simp)]
/-! a law whose function is handed a table and answers a list of whole numbers and a bool -/
theorem markTable_eq (l : List ByteArray) (h : l.length ≤ 10000000) (k : Nat) (hk : l.length + 10 < k) : laws_markTable.f k l 1 = some (1 + (l.length : Int), seqS 1 l.length) := by
  unfold laws_markTable.f
  rw [markStringS_eq l 1 (by omega) (by omega) h k hk]; rfl
theorem law_CertainBorders (l0 : List ByteArray) (a1 : ByteArray) (hsz : ¬ (a1.size : Int) > 1048576) (hl : l0.length ≤ maxLen) (hs : ∀ s ∈ l0, s.size ≤ maxLen) (K : Nat)
    (h : l0.length ≤ 1048576 → (∀ s ∈ l0, s.size ≤ 1048576) → ∃ (R : List Int) (b : Bool), R.length ≤ 1048576 ∧ ∀ k, K ≤ k → spec_CertainBorders.f k l0 a1 = some (R, b) ∧ impl_CertainBorders.f k l0 a1 = some (R, b)) : ∃ k, laws_FnExactCertainBorders.f k l0 a1 = some true := by
  skip
  obtain ⟨t, ht, hb⟩ := szTable_eq l0 hl hs
  by_cases h0 : t < 0
  · refine ⟨l0.length + 1, ?_⟩
    unfold laws_FnExactCertainBorders.f
    simp only [ht (l0.length + 1) (by omega), Option.bind_some, h0, if_true, if_false, ite_self, hsz]
  · obtain ⟨h1, h2⟩ := hb (by omega)
    obtain ⟨R, b, hRl, hR⟩ := h h1 h2
    obtain ⟨M, hM⟩ : ∃ M : Nat, K ≤ M ∧ 6291556 ≤ M := ⟨K + 6291556, by omega, by omega⟩
    refine ⟨M + 3, ?_⟩
    have a1 := ht (M + 3) (by omega)
    have a2 := toTable_eq l0 h1 (M + 3) (by omega)
    have r := hR (M + 3) (by omega)
    have a3 := eqIntS_self R hRl (M + 3) (by omega)
    have b1 := toTable_eq l0 h1 (M + 2) (by omega)
    have b2 := eqTable_self l0 h1 (M + 2) (by omega)
    have b3 := markTable_eq l0 (by omega) (M + 2) (by omega)
    have b4 := eqIntS_self R hRl (M + 2) (by omega)
    have c1 := markIntS_eq R 1 (by omega) (by omega) hRl (M + 1) (by omega)
    have c2 := heldIntS_eq 1 (by omega) (by omega) R.length hRl (M + 1) (by omega)
    have c3 := toTable_eq l0 h1 (M + 1) (by omega)
    have c4 := (hR (M + 1) (by omega)).2
    have c5 := eqIntS_self R hRl (M + 1) (by omega)
    have d1 := heldIntS_eq 1 (by omega) (by omega) R.length hRl M (by omega)
    unfold laws_FnExactCertainBorders.f
    simp only [a1, Option.bind_some, h0, if_false, hsz]
    simp only [a2, r.1, r.2, a3, Option.bind_some, bne_self_eq_false, if_true]
    simp only [laws_FnExactCertainBorders.j0, b1, b2, b3, b4, Option.bind_some, Bool.false_eq_true, if_false, if_true, bne_self_eq_false]
    rw [if_neg (by omega)]
    simp only [laws_FnExactCertainBorders.j1, c1, c2, Option.bind_some, Bool.false_eq_true, if_false, if_true]
    rw [if_neg (by omega)]
    simp only [c3, c4, c5, Option.bind_some, Bool.false_eq_true, if_false, if_true, bne_self_eq_false]
    simp only [laws_FnExactCertainBorders.j2, d1, Option.bind_some, Bool.false_eq_true, if_false, if_true]
    rw [if_neg (by omega)]
theorem FnExactCertainBorders : laws_FnExactCertainBorders.Pure := by
  intro l a1 hl hs _
  by_cases hsz : (a1.size : Int) > 1048576
  · refine ⟨0, ?_⟩
    unfold laws_FnExactCertainBorders.f
    rw [if_pos hsz]
  refine law_CertainBorders l a1 hsz hl hs 4200000 fun h1 h2 => ?_
  have ha : a1.size ≤ 1048576 := by omega
  by_cases hr : isRd l a1 = true
  · have hr2 := hr
    unfold isRd at hr2
    rw [Bool.and_eq_true] at hr2
    obtain ⟨ht, hm⟩ := hr2
    have h40 : a1.size ≤ 40 := by
      simp only [isMk, Bool.and_eq_true, decide_eq_true_eq] at hm; omega
    obtain ⟨_, _, hl1, hl10⟩ := isTab_mem l ht
    have hwf : wfuel l a1 ≤ 40 * 12 + 1 := by
      unfold wfuel
      have : a1.size * (l.length + 2) ≤ 40 * 12 := Nat.mul_le_mul h40 (by omega)
      omega
    have hpl := places_len (isBrd l a1 true) (a1.size + 1) 0
    refine ⟨places (isBrd l a1 true) (a1.size + 1) 0, true, by omega, fun k hk => ?_⟩
    have g1 := l3Good_eq l h1 h2 a1 ha k (by omega)
    have g2 := isRead_eq l h1 h2 a1 ha k (by omega)
    have b1 := l3Borders_eq l h1 h2 a1 ha k (by omega)
    have b2 := iWays_eq l h1 h2 a1 ha k (by omega)
    have s1 := sPl_l0 l a1 (by omega) ht true (a1.size + 1) k 0 [] (by omega) (by omega) (by simp only [List.length_nil]; omega)
    have s2 := iPl_l0 l h1 h2 a1 (by omega) ht (a1.size + 1) k 0 [] (by omega) (by omega) (by simp only [List.length_nil]; omega)
    rw [Int.natCast_zero, List.nil_append] at s1 s2
    have e : wrap64 ((a1.size : Int) + 1) = ((a1.size + 1 : Nat) : Int) := by rw [wr (by omega) (by omega)]; omega
    unfold spec_CertainBorders.f impl_CertainBorders.f impl_borders.f spec_l3Places.f
    rw [g1, g2, b1, b2, hr]
    simp only [Option.bind_some, if_true, e, s1, s2]
    exact ⟨trivial, trivial⟩
  · refine ⟨[], false, by simp, fun k hk => ?_⟩
    unfold spec_CertainBorders.f impl_CertainBorders.f impl_borders.f
    rw [l3Good_eq l h1 h2 a1 ha k (by omega), isRead_eq l h1 h2 a1 ha k (by omega), (Bool.not_eq_true _).mp hr]
    exact ⟨rfl, rfl⟩

end Go.Proofs.YtajmbipefekecaaDoor.Pure
