/- ParseTable of the program and of the reference answer alike at every text. -/
import Derived.Test.YtdmeeajeecnheaaDoorHFnExactParseTablex4
namespace Go.Proofs.YtdmeeajeecnheaaDoor.Pure
open Go.RowKit Go.Proofs.YtdmeeajeecnheaaDoor.HFnExactParseTable Go.Proofs.YtdmeeajeecnheaaDoorW.PrintWords Go.Proofs.YtdmeeajeecnheaaDoorW.PrintLast
set_option linter.unusedVariables false
set_option linter.unusedSimpArgs false
set_option linter.unnecessarySimpa false

theorem wr {i : Int} (h0 : -9223372036854775808 ≤ i) (h1 : i ≤ 9223372036854775807) : wrap64 i = i := by unfold wrap64; omega
theorem rd_nat (xs : List Int) (i : Nat) : rd xs (i : Int) = xs.getD i 0 := by simp [rd]
theorem rd_get (xs : List Int) (i : Nat) (h : i < xs.length) : rd xs (i : Int) = xs[i] := by simp [rd, h]
theorem pred_of_lt {d k : Nat} (h : d < k) : ∃ m, k = m + 1 := ⟨k - 1, by omega⟩
/-! bytes of a text -/
theorem size_data (s : ByteArray) : s.data.toList.length = s.size := Array.length_toList
theorem bt_nat (s : ByteArray) (i : Nat) (h : i < s.size) : bt s (i : Int) = ((s.data.toList[i]'(by rw [size_data]; exact h)).toNat : Int) := by
  have := bt_at s (i : Int) (by simpa using h)
  rw [← this]
  rfl
theorem byte_num (b c : UInt8) (n : Nat) (hc : c.toNat = n) : ((b.toNat : Int) = (n : Int)) ↔ b = c := by
  constructor
  · intro h
    exact UInt8.toNat_inj.1 (by omega)
  · rintro rfl; omega
/-! what is left when bytes of a set are taken off both ends -/
theorem dropWhile_nil {p : UInt8 → Bool} (l : List UInt8) : l.dropWhile p = [] ↔ l.all p = true := by
  induction l with
  | nil => simp
  | cons a l ih =>
    rw [List.dropWhile_cons]
    by_cases h : p a = true
    · rw [if_pos h, ih]; simp [h]
    · rw [if_neg h]; simp [h]
theorem trimS_nil (l cs : List UInt8) : Lib.trimS l cs = [] ↔ l.all (cs.contains ·) = true := by
  unfold Lib.trimS Lib.trimLeftS Lib.trimRightS
  rw [dropWhile_nil]
  constructor
  · intro h
    by_cases hr : (l.reverse.dropWhile (cs.contains ·)) = []
    · rw [dropWhile_nil, List.all_reverse] at hr; exact hr
    · exfalso
      rw [List.all_reverse] at h
      cases hd : l.reverse.dropWhile (cs.contains ·) with
      | nil => exact hr hd
      | cons a t =>
        have ha : cs.contains a = false := by
          have := List.head?_dropWhile_not (cs.contains ·) l.reverse
          rw [hd] at this
          simpa using this
        rw [hd] at h
        simp at h
        rw [List.contains_eq_mem] at ha
        simp [h.1] at ha
  · intro h
    have : (l.reverse.dropWhile (cs.contains ·)) = [] := by
      rw [dropWhile_nil, List.all_reverse]; exact h
    rw [this]; rfl
theorem toList_nil (l : List UInt8) : ((⟨l.toArray⟩ : ByteArray).toList == ([] : List UInt8)) = l.isEmpty := by
  have : (⟨l.toArray⟩ : ByteArray).toList = l := by
    rw [ByteArray.toList_eq]
  rw [this]
  cases l <;> rfl
theorem l1In_eq (a b c : Int) : spec_l1In.f a b c = some (decide (b ≤ a) && decide (a ≤ c)) := by
  unfold spec_l1In.f
  by_cases h : a ≥ b
  · rw [if_pos h]; simp [show b ≤ a from h]
  · rw [if_neg h]; simp [show ¬ b ≤ a from h]
theorem in_eq (a b c : Int) : impl_in.f a b c = some (decide (b ≤ a) && decide (a ≤ c)) := by
  unfold impl_in.f
  by_cases h : a ≥ b
  · rw [if_pos h]; simp [show b ≤ a from h]
  · rw [if_neg h]; simp [show ¬ b ≤ a from h]
/-! lists of texts: their sizes, copies, comparisons -/
theorem rdS_get (xs : List ByteArray) (i : Nat) (h : i < xs.length) : rdOf ByteArray.empty xs (i : Int) = xs[i] := by simp [rdOf, h]
theorem toList_inj (a b : ByteArray) : a.toList = b.toList ↔ a = b := by
  rw [ByteArray.toList_eq, ByteArray.toList_eq]
  constructor
  · intro h; exact ByteArray.ext (Array.toList_inj.1 h)
  · rintro rfl; rfl
theorem eqStringS_l0 (a : List ByteArray) (ha : a.length ≤ 1048576) (d : Nat) : ∀ (k i : Nat), i ≤ a.length → a.length - i = d → d < k → laws_eqStringS.l0 k a a (i : Int) = some true := by
  induction d with
  | zero =>
    intro k i hi hd hk
    obtain ⟨k, rfl⟩ := pred_of_lt hk
    simp only [laws_eqStringS.l0]; rw [if_neg (by omega)]
  | succ d ih =>
    intro k i hi hd hk
    obtain ⟨k, rfl⟩ := pred_of_lt hk
    simp only [laws_eqStringS.l0, if_true]; rw [if_pos (by omega), if_pos (by omega), if_pos (by omega), wr (by omega) (by omega)]
    have e : ((i : Int) + 1) = ((i + 1 : Nat) : Int) := by omega
    rw [e]
    exact ih k (i + 1) (by omega) (by omega) (by omega)
theorem eqStringS_self (a : List ByteArray) (ha : a.length ≤ 1048576) (k : Nat) (hk : a.length < k) : laws_eqStringS.f k a a = some true := by
  unfold laws_eqStringS.f
  rw [if_pos rfl]
  exact eqStringS_l0 a ha a.length k 0 (by omega) (by omega) hk
/-! marks, as both sides ask for them -/
def dotDash (b : UInt8) : Bool := b == 46 || b == 45
def isMk (s : ByteArray) (lo hi : Int) : Bool := (decide (lo ≤ (s.size : Int)) && decide ((s.size : Int) ≤ hi)) && s.data.toList.all dotDash
theorem bt_is (s : ByteArray) (i : Nat) (h : i < s.size) (c : UInt8) (n : Int) (hc : (c.toNat : Int) = n) : (bt s (i : Int) = n) ↔ (s.data.toList[i]'(by rw [size_data]; exact h)) = c := by
  rw [bt_nat s i h, ← hc]
  constructor
  · intro e; exact UInt8.toNat_inj.1 (by omega)
  · intro e; rw [e]
theorem l2Marks_l0 (s : ByteArray) (hs : s.size ≤ 1048576) (lo hi : Int) (d : Nat) : ∀ (k i : Nat), i ≤ s.size → s.size - i = d → 2 * d + 1 < k → (s.data.toList.take i).all dotDash = true → spec_l2Marks.l0 k s lo hi (i : Int) = some (isMk s lo hi) := by
  have hsz := size_data s
  induction d with
  | zero =>
    intro k i hi' hd hk ht
    obtain ⟨k, rfl⟩ := pred_of_lt hk
    obtain ⟨k, rfl⟩ : ∃ m, k = m + 1 := ⟨k - 1, by omega⟩
    simp only [spec_l2Marks.l0]; rw [if_neg (by omega)]
    simp only [spec_l2Marks.j1]; rw [if_neg (by simp), l1In_eq]
    rw [List.take_of_length_le (by omega)] at ht
    simp only [Option.bind_some, isMk, ht, Bool.and_true]
  | succ d ih =>
    intro k i hi' hd hk ht
    obtain ⟨k, rfl⟩ := pred_of_lt hk
    obtain ⟨k, rfl⟩ : ∃ m, k = m + 1 := ⟨k - 1, by omega⟩
    have c1 : (i : Int) < (s.size : Int) := by omega
    have c2 : (0 : Int) ≤ (i : Int) := by omega
    have e : wrap64 ((i : Int) + 1) = ((i + 1 : Nat) : Int) := by rw [wr (by omega) (by omega)]; omega
    simp only [spec_l2Marks.l0, c1, if_true, spec_l2Marks.j1]
    by_cases h200 : (i : Int) ≤ hi
    · have hd2 : decide ((i : Int) ≤ hi) = true := by simpa using h200
      simp only [hd2, c2, if_true, e]
      have hlt : i < s.data.toList.length := by omega
      have next : dotDash (s.data.toList[i]) = true → spec_l2Marks.l0 k s lo hi ((i + 1 : Nat) : Int) = some (isMk s lo hi) := fun hb => ih k (i + 1) (by omega) (by omega) (by omega) (by
        rw [List.take_succ_eq_append_getElem hlt, List.all_append, ht]; simp only [List.all_cons, List.all_nil, hb, Bool.and_true])
      by_cases h0 : bt s (i : Int) = 46
      · rw [if_pos h0]
        exact next (by rw [bt_is s i (by omega) 46 46 (by decide)] at h0; rw [h0]; decide)
      · rw [if_neg h0]
        by_cases h1 : bt s (i : Int) = 45
        · rw [if_pos h1]
          exact next (by rw [bt_is s i (by omega) 45 45 (by decide)] at h1; rw [h1]; decide)
        · rw [if_neg h1]
          rw [bt_is s i (by omega) 46 46 (by decide)] at h0
          rw [bt_is s i (by omega) 45 45 (by decide)] at h1
          have hm : s.data.toList[i] ∈ s.data.toList := List.getElem_mem _
          have hf : s.data.toList.all dotDash = false := by
            rw [List.all_eq_false]; exact ⟨_, hm, by simp only [dotDash, Bool.or_eq_true, beq_iff_eq, h0, h1, or_self, not_false_eq_true]⟩
          simp only [isMk, hf, Bool.and_false]
    · have hd2 : decide ((i : Int) ≤ hi) = false := by simpa using h200
      simp only [hd2, Bool.false_eq_true, if_false]
      have hn : decide ((s.size : Int) ≤ hi) = false := by simp; omega
      rw [l1In_eq]
      simp only [Option.bind_some, isMk, hn, Bool.and_false, Bool.false_and]
theorem l2Marks_eq (s : ByteArray) (hs : s.size ≤ 1048576) (lo hi : Int) (k : Nat) (hk : 2 * s.size + 1 < k) : spec_l2Marks.f k s lo hi = some (isMk s lo hi) := by
  unfold spec_l2Marks.f
  exact l2Marks_l0 s hs lo hi s.size k 0 (by omega) (by omega) hk (by simp)
theorem areMarks_eq (s : ByteArray) (hs : s.size ≤ 1048576) (lo hi : Int) : impl_areMarks.f s lo hi = some (isMk s lo hi) := by
  unfold impl_areMarks.f
  rw [in_eq]
  simp only [Option.bind_some]
  by_cases h : (decide (lo ≤ (s.size : Int)) && decide ((s.size : Int) ≤ hi)) = true
  · rw [if_pos h]
    unfold strings_Trim.f
    rw [if_pos (by omega), if_pos (by decide), if_pos (by decide)]
    simp only [Option.bind_some]
    rw [toList_nil]
    have e : (Lib.trimS s.data.toList [46, 45]).isEmpty = s.data.toList.all dotDash := by
      rw [Bool.eq_iff_iff, List.isEmpty_iff, trimS_nil]
      have : (fun x => [46, 45].contains x) = dotDash := by
        funext x
        simp [dotDash, List.contains_eq_mem]
        rfl
      rw [this]
    show some (Lib.trimS s.data.toList [46, 45]).isEmpty = _
    rw [e]
    simp only [isMk, h, Bool.true_and]
  · rw [if_neg h]
    simp only [isMk, (Bool.not_eq_true _).mp h, Bool.false_and]
theorem in_eq' (a b c : Int) : impl_in.f a b c = some (decide (b ≤ a) && decide (a ≤ c)) := in_eq a b c
/-! a table, as both sides ask for it -/
def has (l : List ByteArray) (a : ByteArray) : Bool := l.any fun b => a.toList == b.toList
def goodT : List ByteArray → List ByteArray → Bool
  | _, [] => true
  | seen, a :: t => isMk a 1 5 && (!has seen a && goodT (seen ++ [a]) t)
def isTab (l : List ByteArray) : Bool := (decide (1 ≤ (l.length : Int)) && decide ((l.length : Int) ≤ 10)) && goodT [] l
theorem take_snoc {α : Type} (l : List α) (i : Nat) (h : i < l.length) : l.take (i + 1) = l.take i ++ [l[i]] := List.take_succ_eq_append_getElem h
theorem drop_cons {α : Type} (l : List α) (i : Nat) (h : i < l.length) : l.drop i = l[i] :: l.drop (i + 1) := List.drop_eq_getElem_cons h
theorem has_take (l : List ByteArray) (a : ByteArray) (i : Nat) (h : i < l.length) : has (l.take (i + 1)) a = (has (l.take i) a || (a.toList == l[i].toList)) := by
  unfold has
  rw [take_snoc l i h, List.any_append]; simp only [List.any_cons, List.any_nil, Bool.or_false]
/-- where a text stands in a list first, or -1 -/
def placeN (l : List ByteArray) (a : ByteArray) : Int := match l.findIdx? (fun b => a.toList == b.toList) with
  | some i => (i : Int)
  | none => -1
theorem place_hit (l : List ByteArray) (a : ByteArray) (i : Nat) (hi : i < l.length) (h1 : has (l.take i) a = false) (h2 : a.toList = l[i].toList) : placeN l a = (i : Int) := by
  unfold placeN
  have : l.findIdx? (fun b => a.toList == b.toList) = some i := by
    rw [List.findIdx?_eq_some_iff_getElem]
    refine ⟨hi, by simpa using h2, fun j hj => ?_⟩
    intro hc
    have hm : l[j] ∈ l.take i := by
      rw [List.mem_take_iff_getElem]
      exact ⟨j, by omega, rfl⟩
    have ht : has (l.take i) a = true := List.any_eq_true.2 ⟨_, hm, hc⟩
    rw [h1] at ht; cases ht
  rw [this]
theorem place_none (l : List ByteArray) (a : ByteArray) (h : has l a = false) : placeN l a = -1 := by
  unfold placeN
  have : l.findIdx? (fun b => a.toList == b.toList) = none := by
    rw [List.findIdx?_eq_none_iff]
    intro x hx
    have := List.any_eq_false.1 h x hx
    simpa using this
  rw [this]
theorem l2Place_l0 (l : List ByteArray) (hl : l.length ≤ 1048577) (a : ByteArray) (d : Nat) : ∀ (k i : Nat), i ≤ l.length → l.length - i = d → d < k → has (l.take i) a = false → spec_l2Place.l0 k l a (i : Int) = some (placeN l a) := by
  induction d with
  | zero =>
    intro k i hi hd hk ht
    obtain ⟨k, rfl⟩ := pred_of_lt hk
    simp only [spec_l2Place.l0]; rw [if_neg (by omega)]
    rw [List.take_of_length_le (by omega)] at ht
    rw [place_none l a ht]
  | succ d ih =>
    intro k i hi hd hk ht
    obtain ⟨k, rfl⟩ := pred_of_lt hk
    have hlt : i < l.length := by omega
    simp only [spec_l2Place.l0]; rw [if_pos (by omega), if_pos (by omega), rdS_get l i hlt]
    by_cases hc : l[i].toList = a.toList
    · rw [if_pos hc, place_hit l a i hlt ht hc.symm]
    · rw [if_neg hc, wr (by omega) (by omega)]
      have e : ((i : Int) + 1) = ((i + 1 : Nat) : Int) := by omega
      rw [e]
      refine ih k (i + 1) (by omega) (by omega) (by omega) ?_
      rw [has_take l a i hlt, ht, Bool.false_or, beq_eq_false_iff_ne]
      exact fun e => hc e.symm
theorem l2Place_eq (l : List ByteArray) (hl : l.length ≤ 1048577) (a : ByteArray) (k : Nat) (hk : l.length < k) : spec_l2Place.f k l a = some (placeN l a) := by
  unfold spec_l2Place.f
  exact l2Place_l0 l hl a l.length k 0 (by omega) (by omega) hk (by simp [has])
theorem sIndex_l0 (l : List ByteArray) (hl : l.length ≤ 1048577) (a : ByteArray) (d : Nat) : ∀ (k i : Nat), i ≤ l.length → l.length - i = d → d < k → has (l.take i) a = false → slices_Index_string_string.l0 k l a (l.length : Int) (i : Int) = some (placeN l a) := by
  induction d with
  | zero =>
    intro k i hi hd hk ht
    obtain ⟨k, rfl⟩ := pred_of_lt hk
    simp only [slices_Index_string_string.l0]; rw [if_neg (by omega)]
    rw [List.take_of_length_le (by omega)] at ht
    rw [place_none l a ht]
  | succ d ih =>
    intro k i hi hd hk ht
    obtain ⟨k, rfl⟩ := pred_of_lt hk
    have hlt : i < l.length := by omega
    simp only [slices_Index_string_string.l0]; rw [if_pos (by omega), if_pos (by omega), if_pos (by omega), rdS_get l i hlt]
    by_cases hc : a.toList = l[i].toList
    · rw [if_pos hc, place_hit l a i hlt ht hc]
    · rw [if_neg hc, wr (by omega) (by omega)]
      have e : ((i : Int) + 1) = ((i + 1 : Nat) : Int) := by omega
      rw [e]
      refine ih k (i + 1) (by omega) (by omega) (by omega) ?_
      rw [has_take l a i hlt, ht, Bool.false_or, beq_eq_false_iff_ne]
      exact hc
theorem sIndex_eq (l : List ByteArray) (hl : l.length ≤ 1048577) (a : ByteArray) (k : Nat) (hk : l.length < k) : slices_Index_string_string.f k l a = some (placeN l a) := by
  unfold slices_Index_string_string.f
  exact sIndex_l0 l hl a l.length k 0 (by omega) (by omega) hk (by simp [has])
theorem place_has (l : List ByteArray) (a : ByteArray) : decide (placeN l a ≥ 0) = has l a := by
  by_cases h : has l a = true
  · obtain ⟨x, hx, hb⟩ := List.any_eq_true.1 h
    unfold placeN
    cases hf : l.findIdx? (fun b => a.toList == b.toList) with
    | none =>
      have := List.findIdx?_eq_none_iff.1 hf x hx
      rw [hb] at this; cases this
    | some i => rw [h]; simp
  · rw [place_none l a ((Bool.not_eq_true _).mp h), (Bool.not_eq_true _).mp h]; decide
theorem sContains_eq (l : List ByteArray) (hl : l.length ≤ 1048577) (a : ByteArray) (k : Nat) (hk : l.length < k) : slices_Contains_string_string.f k l a = some (has l a) := by
  unfold slices_Contains_string_string.f
  rw [sIndex_eq l hl a k hk]
  simp only [Option.bind_some]
  rw [place_has]
theorem place_self (l : List ByteArray) (i : Nat) (hi : i < l.length) : (placeN l l[i] = (i : Int)) ↔ has (l.take i) l[i] = false := by
  constructor
  · intro h
    by_cases hc : has (l.take i) l[i] = true
    · exfalso
      obtain ⟨x, hx, hb⟩ := List.any_eq_true.1 hc
      obtain ⟨j, hj, rfl⟩ := List.getElem_of_mem hx
      rw [List.length_take] at hj
      unfold placeN at h
      cases hf : l.findIdx? (fun b => l[i].toList == b.toList) with
      | none => rw [hf] at h; simp at h
      | some m =>
        rw [hf] at h
        have hm : m = i := by
          have h' : (m : Int) = (i : Int) := h
          omega
        subst hm
        have := (List.findIdx?_eq_some_iff_getElem.1 hf).2.2 j (by omega)
        rw [List.getElem_take] at hb
        exact this hb
    · exact (Bool.not_eq_true _).mp hc
  · intro h
    exact place_hit l l[i] i hi h rfl
theorem l2Table_l0 (l : List ByteArray) (hl : l.length ≤ 1048577) (hs : ∀ s ∈ l, s.size ≤ 1048576) (M : Nat) (hM : l.length + 2097160 ≤ M) (d : Nat) : ∀ (k i : Nat), i ≤ l.length → l.length - i = d → M + d < k → spec_l2Table.l0 k (i : Int) l = some (goodT (l.take i) (l.drop i)) := by
  induction d with
  | zero =>
    intro k i hi hd hk
    obtain ⟨k, rfl⟩ := pred_of_lt hk
    simp only [spec_l2Table.l0]; rw [if_neg (by omega), List.drop_eq_nil_of_le (by omega)]
    simp [goodT]
  | succ d ih =>
    intro k i hi hd hk
    obtain ⟨k, rfl⟩ := pred_of_lt hk
    have hlt : i < l.length := by omega
    have hz := hs _ (List.getElem_mem hlt)
    rw [drop_cons l i hlt]
    simp only [spec_l2Table.l0]; rw [if_pos (by omega), if_pos (by omega), rdS_get l i hlt, l2Marks_eq _ hz 1 5 k (by omega), l2Place_eq l hl _ k (by omega)]
    simp only [Option.bind_some, goodT]
    by_cases h1 : isMk l[i] 1 5 = true
    · rw [if_pos h1, h1, Bool.true_and]
      by_cases h2 : placeN l l[i] = (i : Int)
      · rw [if_pos h2, (place_self l i hlt).1 h2, wr (by omega) (by omega)]
        have e : ((i : Int) + 1) = ((i + 1 : Nat) : Int) := by omega
        rw [e, ih k (i + 1) (by omega) (by omega) (by omega), take_snoc l i hlt]
        simp
      · rw [if_neg h2]
        have : has (l.take i) l[i] = true := by
          by_cases hc : has (l.take i) l[i] = true
          · exact hc
          · exact absurd ((place_self l i hlt).2 ((Bool.not_eq_true _).mp hc)) h2
        rw [this]; simp
    · rw [if_neg h1, (Bool.not_eq_true _).mp h1]; simp
theorem l2Table_eq (l : List ByteArray) (hl : l.length ≤ 1048577) (hs : ∀ s ∈ l, s.size ≤ 1048576) (k : Nat) (hk : 4194400 ≤ k) : spec_l2Table.f k l = some (isTab l) := by
  unfold spec_l2Table.f
  rw [l1In_eq]
  simp only [Option.bind_some]
  by_cases h : (decide (1 ≤ (l.length : Int)) && decide ((l.length : Int) ≤ 10)) = true
  · rw [if_pos h]
    have h10 : l.length ≤ 10 := by simp only [Bool.and_eq_true, decide_eq_true_eq] at h; omega
    have := l2Table_l0 l hl hs (l.length + 2097160) (by omega) l.length k 0 (by omega) (by omega) (by omega)
    rw [List.take_zero, List.drop_zero] at this
    simp only [isTab, h, Bool.true_and]
    exact this
  · rw [if_neg h]; simp only [isTab, (Bool.not_eq_true _).mp h, Bool.false_and]
theorem isLetterMarks_eq (s : ByteArray) (hs : s.size ≤ 1048576) : impl_isLetterMarks.f s = some (isMk s 1 5) := by
  unfold impl_isLetterMarks.f
  rw [areMarks_eq s hs]; rfl
theorem isTable_l0 (l : List ByteArray) (hl : l.length ≤ 1048577) (hs : ∀ s ∈ l, s.size ≤ 1048576) (d : Nat) : ∀ (k i : Nat), i ≤ l.length → l.length - i = d → l.length + d < k →
    impl_isTable.l0 k l (l.length : Int) (i : Int) l = some (goodT (l.take i) (l.drop i) && (decide (1 ≤ (l.length : Int)) && decide ((l.length : Int) ≤ 10))) := by
  induction d with
  | zero =>
    intro k i hi hd hk
    obtain ⟨k, rfl⟩ := pred_of_lt hk
    simp only [impl_isTable.l0]; rw [if_neg (by omega), List.drop_eq_nil_of_le (by omega), in_eq]
    simp [goodT]
  | succ d ih =>
    intro k i hi hd hk
    obtain ⟨k, rfl⟩ := pred_of_lt hk
    have hlt : i < l.length := by omega
    have hz := hs _ (List.getElem_mem hlt)
    have c1 : (i : Int) ≤ (l.length : Int) := by omega
    rw [drop_cons l i hlt]
    simp only [impl_isTable.l0]; rw [if_pos (by omega), if_pos (by omega), if_pos (by omega), rdS_get l i hlt, isLetterMarks_eq _ hz]
    simp only [Option.bind_some, goodT]
    by_cases h1 : isMk l[i] 1 5 = true
    · rw [if_pos h1, h1, Bool.true_and, if_pos c1, Int.toNat_natCast, sContains_eq _ (by rw [List.length_take]; omega) _ k (by rw [List.length_take]; omega)]
      simp only [Option.bind_some]
      by_cases h2 : has (l.take i) l[i] = true
      · rw [if_pos h2, h2]; simp
      · rw [if_neg h2, (Bool.not_eq_true _).mp h2, wr (by omega) (by omega)]
        have e : ((i : Int) + 1) = ((i + 1 : Nat) : Int) := by omega
        rw [e, ih k (i + 1) (by omega) (by omega) (by omega), take_snoc l i hlt]
        simp
    · rw [if_neg h1, (Bool.not_eq_true _).mp h1]; simp
theorem isTable_eq (l : List ByteArray) (hl : l.length ≤ 1048577) (hs : ∀ s ∈ l, s.size ≤ 1048576) (k : Nat) (hk : 4194400 ≤ k) : impl_isTable.f k l = some (isTab l) := by
  unfold impl_isTable.f
  have := isTable_l0 l hl hs l.length k 0 (by omega) (by omega) (by omega)
  rw [List.take_zero, List.drop_zero] at this
  rw [show isTab l = (goodT [] l && (decide (1 ≤ (l.length : Int)) && decide ((l.length : Int) ≤ 10))) from Bool.and_comm _ _]
  exact this
/-! marks that are laid into a list of texts and found again -/
theorem strNum_size (n : Int) : (strOfNums [n]).size = 1 := rfl
theorem markText_l0 (f : Nat) : ∀ (a : Int) (x : ByteArray), 0 ≤ a → a < 10 ^ f → a ≤ 1000000000 → x.size + f ≤ 1000 → ∃ r, ∀ k, f < k → laws_markText.l0 k a x = some r := by
  induction f with
  | zero =>
    intro a x h0 h1 h2 hx
    refine ⟨(⟨#[109]⟩ : ByteArray) ++ x, fun k hk => ?_⟩
    obtain ⟨k, rfl⟩ := pred_of_lt hk
    simp only [laws_markText.l0]
    rw [if_neg (by simp at h1; omega), if_pos (by omega)]
  | succ f ih =>
    intro a x h0 h1 h2 hx
    by_cases hp : a > 0
    · have hq : Int.tdiv a 10 = a / 10 := Int.tdiv_eq_ediv_of_nonneg h0
      have hlt : a / 10 < 10 ^ f := by
        rw [Int.pow_succ] at h1
        exact Int.ediv_lt_of_lt_mul (by decide) h1
      obtain ⟨r, hr⟩ := ih (a / 10) (strOfNums [(wrap64 (48 + (Int.tmod a 10))) % 256] ++ x) (by omega) hlt (by omega) (by rw [ByteArray.size_append, strNum_size]; omega)
      refine ⟨r, fun k hk => ?_⟩
      obtain ⟨k, rfl⟩ := pred_of_lt hk
      simp only [laws_markText.l0]
      rw [if_pos hp]
      simp only [Option.bind_some]
      rw [if_pos (by rw [strNum_size]; omega), hq, wr (i := a / 10) (by omega) (by omega)]
      exact hr k (by omega)
    · refine ⟨(⟨#[109]⟩ : ByteArray) ++ x, fun k hk => ?_⟩
      obtain ⟨k, rfl⟩ := pred_of_lt hk
      simp only [laws_markText.l0]
      rw [if_neg hp, if_pos (by omega)]
theorem markText_ex (a : Int) (h0 : 0 ≤ a) (h1 : a ≤ 100000000) : ∃ r, ∀ k, 9 < k → laws_markText.f k a = some r := by
  unfold laws_markText.f
  by_cases h : a ≤ 0
  · exact ⟨_, fun k hk => by rw [if_pos h]⟩
  · obtain ⟨r, hr⟩ := markText_l0 9 a (⟨#[]⟩ : ByteArray) h0 (by omega) (by omega) (by show 0 + 9 ≤ 1000; omega)
    exact ⟨r, fun k hk => by rw [if_neg h]; exact hr k hk⟩
def mt (a : Int) : ByteArray := (laws_markText.f 10 a).getD ByteArray.empty
theorem markText_eq (a : Int) (h0 : 0 ≤ a) (h1 : a ≤ 100000000) (k : Nat) (hk : 9 < k) : laws_markText.f k a = some (mt a) := by
  obtain ⟨r, hr⟩ := markText_ex a h0 h1
  unfold mt
  rw [hr k hk, hr 10 (by omega)]; rfl
def seqS (a : Int) (n : Nat) : List ByteArray := (List.range n).map fun (j : Nat) => mt (a + (j : Int))
theorem seqS_len (a : Int) (n : Nat) : (seqS a n).length = n := by simp [seqS]
theorem seqS_get (a : Int) (n j : Nat) (h : j < n) : (seqS a n)[j]? = some (mt (a + (j : Int))) := by simp [seqS, h]
theorem markStringS_l0 (a : Int) (h0 : 0 ≤ a) (h1 : a ≤ 10000000) (n : Nat) (hn : n ≤ 10000000) (d : Nat) : ∀ (k i : Nat) (x0 : List ByteArray), x0.length = n → i ≤ n → n - i = d → d + 10 < k → (∀ j, j < i → x0[j]? = some (mt (a + (j : Int)))) →
    laws_markStringS.l0 k x0 (a + (i : Int)) (i : Int) = some (a + (n : Int), seqS a n) := by
  induction d with
  | zero =>
    intro k i x0 hl hi hd hk ht
    obtain ⟨k, rfl⟩ := pred_of_lt hk
    simp only [laws_markStringS.l0]; rw [if_neg (by omega)]
    have hin : i = n := by omega
    have : x0 = seqS a n := List.ext_getElem? fun j => by
      by_cases hj : j < i
      · rw [ht j hj, seqS_get a n j (by omega)]
      · rw [List.getElem?_eq_none (by omega), List.getElem?_eq_none (by rw [seqS_len]; omega)]
    rw [this, hin]
  | succ d ih =>
    intro k i x0 hl hi hd hk ht
    obtain ⟨k, rfl⟩ := pred_of_lt hk
    simp only [laws_markStringS.l0]; rw [if_pos (by omega), markText_eq _ (by omega) (by omega) k (by omega)]
    simp only [Option.bind_some]
    rw [if_pos (by omega), wr (by omega) (by omega), wr (by omega) (by omega)]
    have e : ((i : Int) + 1) = ((i + 1 : Nat) : Int) := by omega
    have e2 : a + (i : Int) + 1 = a + ((i + 1 : Nat) : Int) := by omega
    rw [e2, e, Int.toNat_natCast]
    refine ih k (i + 1) _ (by simpa using hl) (by omega) (by omega) (by omega) fun j hj => ?_
    rw [List.getElem?_set]
    by_cases hji : i = j
    · subst hji
      simp [show i < x0.length by omega]
    · rw [if_neg hji]; exact ht j (by omega)
theorem markStringS_eq (l : List ByteArray) (a : Int) (h0 : 0 ≤ a) (h1 : a ≤ 10000000) (h : l.length ≤ 10000000) (k : Nat) (hk : l.length + 10 < k) : laws_markStringS.f k l a = some (a + (l.length : Int), seqS a l.length) := by
  unfold laws_markStringS.f
  have := markStringS_l0 a h0 h1 l.length h l.length k 0 l rfl (by omega) (by omega) hk (fun j hj => by omega)
  simpa using this
theorem heldStringS_l0 (a : Int) (h0 : 0 ≤ a) (h1 : a ≤ 10000000) (n : Nat) (hn : n ≤ 10000000) (d : Nat) : ∀ (k i : Nat), i ≤ n → n - i = d → d + 10 < k → laws_heldStringS.l0 k (seqS a n) (a + (i : Int)) (i : Int) = some (a + (n : Int)) := by
  induction d with
  | zero =>
    intro k i hi hd hk
    obtain ⟨k, rfl⟩ := pred_of_lt hk
    simp only [laws_heldStringS.l0]; rw [seqS_len, if_neg (by omega), show i = n by omega]
  | succ d ih =>
    intro k i hi hd hk
    obtain ⟨k, rfl⟩ := pred_of_lt hk
    have hg : rdOf ByteArray.empty (seqS a n) (i : Int) = mt (a + (i : Int)) := by
      have := seqS_get a n i (by omega)
      simp only [rdOf, Int.toNat_natCast]
      rw [List.getD_eq_getElem?_getD, this]; rfl
    simp only [laws_heldStringS.l0]; rw [seqS_len, if_pos (by omega), if_pos (by omega), markText_eq _ (by omega) (by omega) k (by omega), hg]
    simp only [Option.bind_some, if_true]
    rw [wr (by omega) (by omega), wr (by omega) (by omega)]
    have e : ((i : Int) + 1) = ((i + 1 : Nat) : Int) := by omega
    have e2 : a + (i : Int) + 1 = a + ((i + 1 : Nat) : Int) := by omega
    rw [e2, e]
    exact ih k (i + 1) (by omega) (by omega) (by omega)
theorem heldStringS_eq (a : Int) (h0 : 0 ≤ a) (h1 : a ≤ 10000000) (n : Nat) (hn : n ≤ 10000000) (k : Nat) (hk : n + 10 < k) : laws_heldStringS.f k (seqS a n) a = some (a + (n : Int)) := by
  unfold laws_heldStringS.f
  have := heldStringS_l0 a h0 h1 n hn n k 0 (by omega) (by omega) hk
  simpa using this
/-! a text's pieces between the bytes that part them -/
theorem ext_list (s : ByteArray) (i : Nat) : (s.extract i s.size).data.toList = s.data.toList.drop i := by
  rw [ByteArray.data_extract, Array.toList_extract, List.extract_eq_take_drop, List.take_of_length_le]
  have := size_data s
  rw [List.length_drop]; omega
theorem indexByte_is (l : List UInt8) (c : UInt8) (m : Nat) (h1 : l[m]? = some c) (h2 : ∀ k, k < m → l[k]? ≠ some c) : Lib.indexByte l c = (m : Int) := by
  have hge := Lib.indexByte_ge l c
  by_cases hn : Lib.indexByte l c = -1
  · exact absurd h1 (Lib.indexByte_none hn m)
  · obtain ⟨o, ho⟩ : ∃ o : Nat, Lib.indexByte l c = (o : Int) := ⟨(Lib.indexByte l c).toNat, by omega⟩
    obtain ⟨a1, a2⟩ := Lib.indexByte_some ho
    have : o = m := by
      rcases Nat.lt_trichotomy o m with h | h | h
      · exact absurd a1 (h2 o h)
      · exact h
      · exact absurd h1 (a2 m h)
    rw [ho, this]
theorem indexByte_not (l : List UInt8) (c : UInt8) (h2 : ∀ k : Nat, l[k]? ≠ some c) : Lib.indexByte l c = -1 := by
  have hge := Lib.indexByte_ge l c
  by_cases hn : Lib.indexByte l c = -1
  · exact hn
  · obtain ⟨o, ho⟩ : ∃ o : Nat, Lib.indexByte l c = (o : Int) := ⟨(Lib.indexByte l c).toNat, by omega⟩
    exact absurd (Lib.indexByte_some ho).1 (h2 o)
/-- the pieces -/
def pieces (s : ByteArray) (c : UInt8) : List ByteArray := Lib.splitB ⟨#[c]⟩ 0 (Lib.countB s ⟨#[c]⟩) s
theorem pieces_end (s : ByteArray) (c : UInt8) (i : Nat) (h : ∀ k, i ≤ k → s.data.toList[k]? ≠ some c) : pieces (s.extract i s.size) c = [s.extract i s.size] := by
  unfold pieces
  refine Lib.splitB_miss _ _ _ _ ?_
  rw [strings_Split.idx]
  refine indexByte_not _ _ fun k => ?_
  rw [ext_list, List.getElem?_drop]
  exact h _ (by omega)
theorem pieces_hit (s : ByteArray) (c : UInt8) (i j : Nat) (hij : i ≤ j) (hj : j < s.size) (h1 : s.data.toList[j]? = some c) (h2 : ∀ k, i ≤ k → k < j → s.data.toList[k]? ≠ some c) :
    pieces (s.extract i s.size) c = s.extract i j :: pieces (s.extract (j + 1) s.size) c := by
  have hi : Lib.indexB (s.extract i s.size) ⟨#[c]⟩ = ((j - i : Nat) : Int) := by
    rw [strings_Split.idx]
    refine indexByte_is _ _ _ ?_ fun k hk => ?_
    · rw [ext_list, List.getElem?_drop, show i + (j - i) = j by omega]; exact h1
    · rw [ext_list, List.getElem?_drop]; exact h2 _ (by omega) (by omega)
  have hz : (s.extract i s.size).size = s.size - i := by rw [ByteArray.size_extract, Nat.min_self]
  have e1 : (s.extract i s.size).extract (j - i + (⟨#[c]⟩ : ByteArray).size) (s.extract i s.size).size = s.extract (j + 1) s.size := by
    rw [ByteArray.extract_extract, hz]
    show s.extract (i + (j - i + 1)) (min (i + (s.size - i)) s.size) = _
    rw [show i + (j - i + 1) = j + 1 by omega, show min (i + (s.size - i)) s.size = s.size by omega]
  have e2 : (s.extract i s.size).extract 0 (j - i + 0) = s.extract i j := by
    rw [ByteArray.extract_extract, show i + 0 = i by omega, show min (i + (j - i + 0)) s.size = j by omega]
  unfold pieces
  rw [Lib.countB_hit (s.extract i s.size) (⟨#[c]⟩ : ByteArray) (j - i) (Nat.le_refl 1) hi, e1, Nat.add_comm, Lib.splitB_hit _ _ _ _ _ hi, e1, e2]
theorem getL (s : ByteArray) (j : Nat) (h : j < s.size) : s.data.toList[j]? = some (s.data.toList[j]'(by rw [size_data]; exact h)) := List.getElem?_eq_getElem _
theorem l1Split_l0 (s : ByteArray) (hs : s.size ≤ 1048576) (c : UInt8) (d : Nat) : ∀ (k i j : Nat) (x : List ByteArray), i ≤ j → j ≤ s.size → s.size - j = d → d < k → x.length ≤ j → (∀ m, i ≤ m → m < j → s.data.toList[m]? ≠ some c) →
    spec_l1Split.l0 k s (c.toNat : Int) x (i : Int) (j : Int) = some (x ++ pieces (s.extract i s.size) c) := by
  have hsz := size_data s
  induction d with
  | zero =>
    intro k i j x hij hj hd hk hx hn
    obtain ⟨k, rfl⟩ := pred_of_lt hk
    simp only [spec_l1Split.l0]
    rw [if_neg (by omega), if_pos (by omega), if_pos (by omega), if_pos (by omega), pieces_end s c i (fun m hm => by
      by_cases h : m < j
      · exact hn m hm h
      · rw [List.getElem?_eq_none (by omega)]; exact fun h => by cases h), Int.toNat_natCast]
  | succ d ih =>
    intro k i j x hij hj hd hk hx hn
    obtain ⟨k, rfl⟩ := pred_of_lt hk
    have c1 : (j : Int) < (s.size : Int) := by omega
    have c2 : (0 : Int) ≤ (j : Int) := by omega
    have e1 : wrap64 ((j : Int) + 1) = ((j + 1 : Nat) : Int) := by rw [wr (by omega) (by omega)]; omega
    simp only [spec_l1Split.l0, c1, c2, if_true, e1, Int.toNat_natCast]
    by_cases hc : bt s (j : Int) = (c.toNat : Int)
    · rw [if_pos hc, if_pos (by omega), if_pos (by omega), if_pos (by omega), if_pos (by omega)]
      rw [bt_is s j (by omega) c _ rfl] at hc
      rw [ih k (j + 1) (j + 1) _ (by omega) (by omega) (by omega) (by omega) (by simp; omega) (fun m h1 h2 => by omega),
        pieces_hit s c i j hij (by omega) (by rw [getL s j (by omega), hc]) hn, List.append_assoc]
      rfl
    · rw [if_neg hc]
      rw [bt_is s j (by omega) c _ rfl] at hc
      exact ih k i (j + 1) x (by omega) (by omega) (by omega) (by omega) (by omega) (fun m h1 h2 => by
        by_cases h : m = j
        · subst h; rw [getL s m (by omega)]; exact fun h => hc (Option.some.inj h)
        · exact hn m h1 (by omega))
theorem whole (s : ByteArray) : s.extract 0 s.size = s := ByteArray.extract_zero_size
theorem l1Split_eq (s : ByteArray) (hs : s.size ≤ 1048576) (c : UInt8) (k : Nat) (hk : s.size < k) : spec_l1Split.f k s (c.toNat : Int) = some (pieces s c) := by
  unfold spec_l1Split.f
  have := l1Split_l0 s hs c s.size k 0 0 [] (by omega) (by omega) (by omega) hk (by simp) (fun m h1 h2 => by omega)
  rw [whole] at this
  simpa using this
theorem iSplit_eq (s : ByteArray) (hs : s.size ≤ 1048576) (c : UInt8) : strings_Split.f s ⟨#[c]⟩ = some (pieces s c) := by
  show (if s.size < 4294967281 then some (Lib.splitB ⟨#[c]⟩ 0 (Lib.countB s ⟨#[c]⟩) s) else none) = _
  rw [if_pos (by omega)]; rfl
theorem pieces_len (s : ByteArray) (c : UInt8) : (pieces s c).length ≤ s.size + 1 := by
  unfold pieces
  have := Lib.countB_le (⟨#[c]⟩ : ByteArray) (Nat.le_refl 1) s.size s (Nat.le_refl _)
  have := Lib.splitB_all (⟨#[c]⟩ : ByteArray) (Nat.le_refl 1) 0 _ s rfl
  omega
theorem one_byte (a : ByteArray) (h : (a.size : Int) = 1) : ∃ c : UInt8, a = ⟨#[c]⟩ := by
  obtain ⟨⟨l⟩⟩ := a
  match l, h with
  | [c], _ => exact ⟨c, rfl⟩
theorem eqTable_self (l : List ByteArray) (h : l.length ≤ 1048576) (k : Nat) (hk : l.length < k) : laws_eqTable.f k l l = some true := by
  unfold laws_eqTable.f; rw [eqStringS_self l h k hk]; rfl

theorem markTable_eq (l : List ByteArray) (h : l.length ≤ 10000000) (k : Nat) (hk : l.length + 10 < k) : laws_markTable.f k l 1 = some (1 + (l.length : Int), seqS 1 l.length) := by
  unfold laws_markTable.f
  rw [markStringS_eq l 1 (by omega) (by omega) h k hk]; rfl
theorem heldTable_eq (n : Nat) (h : n ≤ 10000000) (k : Nat) (hk : n + 10 < k) : laws_heldTable.f k (seqS 1 n) 1 = some (1 + (n : Int)) := by
  unfold laws_heldTable.f
  rw [heldStringS_eq 1 (by omega) (by omega) n h k hk]
  simp only [Option.bind_some]
  rw [if_neg (by omega)]
theorem pieces_step (s : ByteArray) (c : UInt8) : pieces s c = [s] ∨ ∃ o : Nat, o < s.size ∧ pieces s c = s.extract 0 o :: pieces (s.extract (o + 1) s.size) c := by
  have hsz := size_data s
  have hge := Lib.indexByte_ge s.data.toList c
  by_cases hn : Lib.indexByte s.data.toList c = -1
  · refine Or.inl (Lib.splitB_miss _ _ _ _ ?_)
    rw [strings_Split.idx]; exact hn
  · obtain ⟨o, ho⟩ : ∃ o : Nat, Lib.indexByte s.data.toList c = (o : Int) := ⟨(Lib.indexByte s.data.toList c).toNat, by omega⟩
    have h1 := (Lib.indexByte_some ho).1
    have hlt : o < s.size := by rw [← hsz]; exact (List.getElem?_eq_some_iff.1 h1).1
    have hi : Lib.indexB s ⟨#[c]⟩ = (o : Int) := by rw [strings_Split.idx]; exact ho
    refine Or.inr ⟨o, hlt, ?_⟩
    unfold pieces
    rw [Lib.countB_hit s (⟨#[c]⟩ : ByteArray) o (Nat.le_refl 1) hi, Nat.add_comm, Lib.splitB_hit _ _ _ _ _ hi]
    rfl
theorem pieces_sum (c : UInt8) : ∀ (n : Nat) (s : ByteArray), s.size ≤ n → ((pieces s c).map fun p => p.size + 1).sum = s.size + 1 := by
  intro n
  induction n with
  | zero =>
    intro s hs
    rcases pieces_step s c with h | ⟨o, ho, h⟩
    · rw [h]; simp
    · omega
  | succ n ih =>
    intro s hs
    rcases pieces_step s c with h | ⟨o, ho, h⟩
    · rw [h]; simp
    · rw [h, List.map_cons, List.sum_cons, ih (s.extract (o + 1) s.size) (by rw [ByteArray.size_extract]; omega), ByteArray.size_extract, ByteArray.size_extract]
      omega
theorem good_all : ∀ (l seen : List ByteArray), goodT seen l = true → ∀ a ∈ l, isMk a 1 5 = true
  | [], _, _, _, h => by cases h
  | b :: t, seen, hg, a, h => by
    simp only [goodT, Bool.and_eq_true] at hg
    rcases List.mem_cons.1 h with e | e
    · rw [e]; exact hg.1
    · exact good_all t _ hg.2.2 a e
theorem sum_small : ∀ l : List ByteArray, (∀ a ∈ l, isMk a 1 5 = true) → (l.map fun p => p.size + 1).sum ≤ 6 * l.length
  | [], _ => Nat.le_refl _
  | a :: t, h => by
    have h1 := sum_small t fun x hx => h x (List.mem_cons_of_mem _ hx)
    have h2 := h a List.mem_cons_self
    simp only [isMk, Bool.and_eq_true, decide_eq_true_eq] at h2
    simp only [List.map_cons, List.sum_cons, List.length_cons]; omega
theorem tab_small (s : ByteArray) (h : isTab (pieces s 44) = true) : s.size ≤ 60 := by
  have hs := pieces_sum 44 s.size s (Nat.le_refl _)
  simp only [isTab, Bool.and_eq_true, decide_eq_true_eq] at h
  have h2 := sum_small _ (good_all _ _ h.2)
  omega
theorem mem_le_sum (f : ByteArray → Nat) : ∀ (l : List ByteArray) (p : ByteArray), p ∈ l → f p ≤ (l.map f).sum
  | [], _, h => by cases h
  | a :: l, p, h => by
    rw [List.map_cons, List.sum_cons]
    rcases List.mem_cons.1 h with h | h
    · rw [h]; omega
    · have := mem_le_sum f l p h; omega
theorem piece_size (s : ByteArray) (c : UInt8) (p : ByteArray) (h : p ∈ pieces s c) : p.size ≤ s.size := by
  have h1 := mem_le_sum (fun p => p.size + 1) _ p h
  rw [pieces_sum c s.size s (Nat.le_refl _)] at h1
  omega
theorem parseAns (s : ByteArray) (hs : s.size ≤ 1048576) : ∃ (R : List ByteArray) (b : Bool), R.length ≤ 1000 ∧ ∀ k, 8388700 ≤ k → spec_ParseTable.f k s = some (R, b) ∧ impl_ParseTable.f k s = some (R, b) := by
  have hl := pieces_len s 44
  have hsz : ∀ p ∈ pieces s 44, p.size ≤ 1048576 := fun p hp => by have := piece_size s 44 p hp; omega
  have h44 : (((44 : UInt8).toNat : Nat) : Int) = 44 := rfl
  by_cases ht : isTab (pieces s 44) = true
  · have hsm := tab_small s ht
    refine ⟨pieces s 44, true, by omega, fun k hk => ?_⟩
    have hsp := l1Split_eq s hs 44 k (by omega)
    rw [h44] at hsp
    unfold spec_ParseTable.f spec_l2Parse.f impl_ParseTable.f
    rw [if_neg (by omega), hsp, iSplit_eq s hs 44]
    simp only [Option.bind_some]
    rw [l2Table_eq _ (by omega) hsz k (by omega), isTable_eq _ (by omega) hsz k (by omega), ht]
    exact ⟨rfl, rfl⟩
  · refine ⟨[], false, by simp, fun k hk => ?_⟩
    have hsp := l1Split_eq s hs 44 k (by omega)
    rw [h44] at hsp
    unfold spec_ParseTable.f spec_l2Parse.f impl_ParseTable.f
    rw [hsp, iSplit_eq s hs 44]
    simp only [Option.bind_some]
    rw [l2Table_eq _ (by omega) hsz k (by omega), isTable_eq _ (by omega) hsz k (by omega), (Bool.not_eq_true _).mp ht]
    by_cases h60 : (s.size : Int) > 60
    · rw [if_pos h60]; exact ⟨rfl, rfl⟩
    · rw [if_neg h60]; exact ⟨rfl, rfl⟩
theorem FnExactParseTable : laws_FnExactParseTable.Pure := by
  intro s _
  by_cases hsz : (s.size : Int) > 1048576
  · exact ⟨0, by unfold laws_FnExactParseTable.f; rw [if_pos hsz]⟩
  · obtain ⟨R, b, hRl, hR⟩ := parseAns s (by omega)
    obtain ⟨M, hM⟩ : ∃ M : Nat, 8388700 ≤ M := ⟨8388700, Nat.le_refl _⟩
    refine ⟨M + 2, ?_⟩
    have r := hR (M + 2) (by omega)
    have a3 := eqTable_self R (by omega) (M + 2) (by omega)
    have c1 := markTable_eq R (by omega) (M + 1) (by omega)
    have c2 := heldTable_eq R.length (by omega) (M + 1) (by omega)
    have c4 := (hR (M + 1) (by omega)).2
    have c5 := eqTable_self R (by omega) (M + 1) (by omega)
    have d1 := heldTable_eq R.length (by omega) M (by omega)
    unfold laws_FnExactParseTable.f
    rw [if_neg hsz]
    simp only [r.1, r.2, a3, Option.bind_some, bne_self_eq_false, if_true]
    simp only [laws_FnExactParseTable.j0, c1, c2, Option.bind_some, Bool.false_eq_true, if_false, if_true]
    rw [if_neg (by omega)]
    simp only [c4, c5, Option.bind_some, Bool.false_eq_true, if_false, if_true, bne_self_eq_false]
    simp only [laws_FnExactParseTable.j1, d1, Option.bind_some, Bool.false_eq_true, if_false, if_true]
    rw [if_neg (by omega)]

end Go.Proofs.YtdmeeajeecnheaaDoor.Pure
