/- TableText of the program and of the reference answer alike at every table. -/
import Derived.Test.YtajocpgghdmimaaDoorHFnExactTableTextx3
namespace Go.Proofs.YtajocpgghdmimaaDoor.Pure
open Go.RowKit Go.Proofs.YtajocpgghdmimaaDoor.HFnExactTableText Go.Proofs.YtajocpgghdmimaaDoorW.PrintWords Go.Proofs.YtajocpgghdmimaaDoorW.PrintLast
set_option linter.unusedVariables false
set_option linter.unusedSimpArgs false
set_option linter.unnecessarySimpa false

theorem wr {i : Int} (h0 : -9223372036854775808 ≤ i) (h1 : i ≤ 9223372036854775807) : wrap64 i = i := by unfold wrap64; omega
theorem rd_nat (xs : List Int) (i : Nat) : rd xs (i : Int) = xs.getD i 0 := by simp [rd]
theorem rd_get (xs : List Int) (i : Nat) (h : i < xs.length) : rd xs (i : Int) = xs[i] := by simp [rd, h]
theorem pred_of_lt {d k : Nat} (h : d < k) : ∃ m, k = m + 1 := ⟨k - 1, by omega⟩
/-! bytes of a text -/
theorem size_data (s : ByteArray) : s.data.toList.length = s.size := Array.length_toList
theorem bt_nat (s : ByteArray) (i : Nat) (h : i < s.size) : bt s (i : Int) = ((s.data.toList[i]'(by rw [size_data]; exact h)).toNat : Int) := by
  have := bt_at s (i : Int) (by simpa using h)
  rw [← this]
  rfl
theorem byte_num (b c : UInt8) (n : Nat) (hc : c.toNat = n) : ((b.toNat : Int) = (n : Int)) ↔ b = c := by
  constructor
  · intro h
    exact UInt8.toNat_inj.1 (by omega)
  · rintro rfl; omega
/-! what is left when bytes of a set are taken off both ends -/
theorem dropWhile_nil {p : UInt8 → Bool} (l : List UInt8) : l.dropWhile p = [] ↔ l.all p = true := by
  induction l with
  | nil => simp
  | cons a l ih =>
    rw [List.dropWhile_cons]
    by_cases h : p a = true
    · rw [if_pos h, ih]; simp [h]
    · rw [if_neg h]; simp [h]
theorem trimS_nil (l cs : List UInt8) : Lib.trimS l cs = [] ↔ l.all (cs.contains ·) = true := by
  unfold Lib.trimS Lib.trimLeftS Lib.trimRightS
  rw [dropWhile_nil]
  constructor
  · intro h
    by_cases hr : (l.reverse.dropWhile (cs.contains ·)) = []
    · rw [dropWhile_nil, List.all_reverse] at hr; exact hr
    · exfalso
      rw [List.all_reverse] at h
      cases hd : l.reverse.dropWhile (cs.contains ·) with
      | nil => exact hr hd
      | cons a t =>
        have ha : cs.contains a = false := by
          have := List.head?_dropWhile_not (cs.contains ·) l.reverse
          rw [hd] at this
          simpa using this
        rw [hd] at h
        simp at h
        rw [List.contains_eq_mem] at ha
        simp [h.1] at ha
  · intro h
    have : (l.reverse.dropWhile (cs.contains ·)) = [] := by
      rw [dropWhile_nil, List.all_reverse]; exact h
    rw [this]; rfl
theorem toList_nil (l : List UInt8) : ((⟨l.toArray⟩ : ByteArray).toList == ([] : List UInt8)) = l.isEmpty := by
  have : (⟨l.toArray⟩ : ByteArray).toList = l := by
    rw [ByteArray.toList_eq]
  rw [this]
  cases l <;> rfl
theorem l1In_eq (a b c : Int) : spec_l1In.f a b c = some (decide (b ≤ a) && decide (a ≤ c)) := by
  unfold spec_l1In.f
  by_cases h : a ≥ b
  · rw [if_pos h]; simp [show b ≤ a from h]
  · rw [if_neg h]; simp [show ¬ b ≤ a from h]
theorem in_eq (a b c : Int) : impl_in.f a b c = some (decide (b ≤ a) && decide (a ≤ c)) := by
  unfold impl_in.f
  by_cases h : a ≥ b
  · rw [if_pos h]; simp [show b ≤ a from h]
  · rw [if_neg h]; simp [show ¬ b ≤ a from h]
/-! lists of texts: their sizes, copies, comparisons -/
theorem rdS_get (xs : List ByteArray) (i : Nat) (h : i < xs.length) : rdOf ByteArray.empty xs (i : Int) = xs[i] := by simp [rdOf, h]
theorem toList_inj (a b : ByteArray) : a.toList = b.toList ↔ a = b := by
  rw [ByteArray.toList_eq, ByteArray.toList_eq]
  constructor
  · intro h; exact ByteArray.ext (Array.toList_inj.1 h)
  · rintro rfl; rfl
theorem szStringS_l0 (l : List ByteArray) (hl : l.length ≤ maxLen) (hs : ∀ s ∈ l, s.size ≤ maxLen) (d : Nat) : ∀ (i : Nat) (left : Int), 0 ≤ left → left ≤ 1048576 → i ≤ l.length → l.length - i = d →
    ∃ t : Int, (∀ k, d < k → laws_szStringS.l0 k l left (i : Int) = some t) ∧ t ≤ left ∧ (0 ≤ t → ∀ j (h : j < l.length), i ≤ j → (l[j].size : Int) ≤ left) := by
  unfold maxLen at hl hs
  induction d with
  | zero =>
    intro i left h0 h1 hi hd
    refine ⟨left, fun k hk => ?_, by omega, fun _ j h hij => by omega⟩
    obtain ⟨k, rfl⟩ := pred_of_lt hk
    simp only [laws_szStringS.l0]; rw [if_neg (by omega)]
  | succ d ih =>
    intro i left h0 h1 hi hd
    have hlt : i < l.length := by omega
    have hsz := hs _ (List.getElem_mem hlt)
    have c1 : (i : Int) < (l.length : Int) := by omega
    have c2 : (0 : Int) ≤ (i : Int) := by omega
    have e1 : wrap64 ((i : Int) + 1) = ((i + 1 : Nat) : Int) := by rw [wr (by omega) (by omega)]; omega
    have e2 : wrap64 (left - (l[i].size : Int)) = left - (l[i].size : Int) := by rw [wr (by omega) (by omega)]
    by_cases hc : left - (l[i].size : Int) < 0
    · refine ⟨-1, fun k hk => ?_, by omega, fun h => by omega⟩
      obtain ⟨k, rfl⟩ := pred_of_lt hk
      simp only [laws_szStringS.l0, c1, c2, if_true, rdS_get l i hlt, e2, hc]
    · obtain ⟨t, ht, h2, h3⟩ := ih (i + 1) (left - (l[i].size : Int)) (by omega) (by omega) (by omega) (by omega)
      refine ⟨t, fun k hk => ?_, by omega, fun h0t j h hij => ?_⟩
      · obtain ⟨k, rfl⟩ := pred_of_lt hk
        simp only [laws_szStringS.l0, c1, c2, if_true, rdS_get l i hlt, e2, hc, if_false, e1]
        exact ht k (by omega)
      · by_cases hji : i = j
        · subst hji; omega
        · have := h3 h0t j h (by omega); omega
theorem szStringS_eq (l : List ByteArray) (hl : l.length ≤ maxLen) (hs : ∀ s ∈ l, s.size ≤ maxLen) : ∃ t : Int, (∀ k, l.length < k → laws_szStringS.f k l 1048576 = some t) ∧ (0 ≤ t → l.length ≤ 1048576 ∧ ∀ s ∈ l, s.size ≤ 1048576) := by
  have hl' := hl
  unfold maxLen at hl'
  have e : wrap64 (1048576 - (l.length : Int)) = 1048576 - (l.length : Int) := by rw [wr (by omega) (by omega)]
  by_cases hc : 1048576 - (l.length : Int) < 0
  · refine ⟨-1, fun k hk => ?_, fun h => by omega⟩
    unfold laws_szStringS.f
    rw [e, if_pos hc]
  · obtain ⟨t, ht, h2, h3⟩ := szStringS_l0 l hl hs l.length 0 (1048576 - (l.length : Int)) (by omega) (by omega) (by omega) (by omega)
    refine ⟨t, fun k hk => ?_, fun h0 => ⟨by omega, fun s hsm => ?_⟩⟩
    · unfold laws_szStringS.f
      rw [e, if_neg hc]
      exact ht k hk
    · obtain ⟨j, hj, rfl⟩ := List.getElem_of_mem hsm
      have := h3 h0 j hj (by omega)
      omega
theorem toStringS_l0 (x0 : List ByteArray) (hx : x0.length ≤ 1048576) (d : Nat) : ∀ (k i : Nat) (x3 : List ByteArray), i ≤ x0.length → x0.length - i = d → d < k → x3.length = x0.length → (∀ j, j < i → x3[j]? = x0[j]?) →
    laws_toStringS.l0 k x0 x3 (i : Int) = some x0 := by
  induction d with
  | zero =>
    intro k i x3 hi hd hk hl ht
    obtain ⟨k, rfl⟩ := pred_of_lt hk
    simp only [laws_toStringS.l0]; rw [if_neg (by omega)]
    refine congrArg some (List.ext_getElem? fun j => ?_)
    by_cases hj : j < i
    · exact ht j hj
    · rw [List.getElem?_eq_none (by omega), List.getElem?_eq_none (by omega)]
  | succ d ih =>
    intro k i x3 hi hd hk hl ht
    obtain ⟨k, rfl⟩ := pred_of_lt hk
    simp only [laws_toStringS.l0]; rw [if_pos (by omega), if_pos (by omega), if_pos (by omega), wr (by omega) (by omega)]
    have e : ((i : Int) + 1) = ((i + 1 : Nat) : Int) := by omega
    rw [e, Int.toNat_natCast, rdS_get x0 i (by omega)]
    refine ih k (i + 1) _ (by omega) (by omega) (by omega) (by simpa using hl) fun j hj => ?_
    rw [List.getElem?_set]
    by_cases hji : i = j
    · subst hji
      simp [show i < x3.length by omega, show i < x0.length by omega]
    · rw [if_neg hji]; exact ht j (by omega)
theorem toStringS_eq (l : List ByteArray) (h : l.length ≤ 1048576) (k : Nat) (hk : l.length < k) : laws_toStringS.f k l = some l := by
  unfold laws_toStringS.f
  rw [if_pos (by omega), if_pos (by omega)]
  exact toStringS_l0 l (by omega) l.length k 0 _ (by omega) (by omega) hk (by simp) (fun j hj => by omega)
theorem eqStringS_l0 (a : List ByteArray) (ha : a.length ≤ 1048576) (d : Nat) : ∀ (k i : Nat), i ≤ a.length → a.length - i = d → d < k → laws_eqStringS.l0 k a a (i : Int) = some true := by
  induction d with
  | zero =>
    intro k i hi hd hk
    obtain ⟨k, rfl⟩ := pred_of_lt hk
    simp only [laws_eqStringS.l0]; rw [if_neg (by omega)]
  | succ d ih =>
    intro k i hi hd hk
    obtain ⟨k, rfl⟩ := pred_of_lt hk
    simp only [laws_eqStringS.l0, if_true]; rw [if_pos (by omega), if_pos (by omega), if_pos (by omega), wr (by omega) (by omega)]
    have e : ((i : Int) + 1) = ((i + 1 : Nat) : Int) := by omega
    rw [e]
    exact ih k (i + 1) (by omega) (by omega) (by omega)
theorem eqStringS_self (a : List ByteArray) (ha : a.length ≤ 1048576) (k : Nat) (hk : a.length < k) : laws_eqStringS.f k a a = some true := by
  unfold laws_eqStringS.f
  rw [if_pos rfl]
  exact eqStringS_l0 a ha a.length k 0 (by omega) (by omega) hk
/-! a table that a law is handed -/
theorem szTable_eq (l : List ByteArray) (hl : l.length ≤ maxLen) (hs : ∀ s ∈ l, s.size ≤ maxLen) : ∃ t : Int, (∀ k, l.length < k → laws_szTable.f k l 1048576 = some t) ∧ (0 ≤ t → l.length ≤ 1048576 ∧ ∀ s ∈ l, s.size ≤ 1048576) := by
  obtain ⟨t, ht, h⟩ := szStringS_eq l hl hs
  by_cases h0 : t < 0
  · refine ⟨-1, fun k hk => ?_, fun h => by omega⟩
    unfold laws_szTable.f
    rw [ht k hk]; simp only [Option.bind_some]; rw [if_pos h0]
  · refine ⟨t, fun k hk => ?_, h⟩
    unfold laws_szTable.f
    rw [ht k hk]; simp only [Option.bind_some]; rw [if_neg h0]
theorem toTable_eq (l : List ByteArray) (h : l.length ≤ 1048576) (k : Nat) (hk : l.length < k) : laws_toTable.f k l = some l := by
  unfold laws_toTable.f; rw [toStringS_eq l h k hk]; rfl
theorem eqTable_self (l : List ByteArray) (h : l.length ≤ 1048576) (k : Nat) (hk : l.length < k) : laws_eqTable.f k l l = some true := by
  unfold laws_eqTable.f; rw [eqStringS_self l h k hk]; rfl
/-! marks, as both sides ask for them -/
def dotDash (b : UInt8) : Bool := b == 46 || b == 45
def isMk (s : ByteArray) (lo hi : Int) : Bool := (decide (lo ≤ (s.size : Int)) && decide ((s.size : Int) ≤ hi)) && s.data.toList.all dotDash
theorem bt_is (s : ByteArray) (i : Nat) (h : i < s.size) (c : UInt8) (n : Int) (hc : (c.toNat : Int) = n) : (bt s (i : Int) = n) ↔ (s.data.toList[i]'(by rw [size_data]; exact h)) = c := by
  rw [bt_nat s i h, ← hc]
  constructor
  · intro e; exact UInt8.toNat_inj.1 (by omega)
  · intro e; rw [e]
theorem l2Marks_l0 (s : ByteArray) (hs : s.size ≤ 1048576) (lo hi : Int) (d : Nat) : ∀ (k i : Nat), i ≤ s.size → s.size - i = d → 2 * d + 1 < k → (s.data.toList.take i).all dotDash = true → spec_l2Marks.l0 k s lo hi (i : Int) = some (isMk s lo hi) := by
  have hsz := size_data s
  induction d with
  | zero =>
    intro k i hi' hd hk ht
    obtain ⟨k, rfl⟩ := pred_of_lt hk
    obtain ⟨k, rfl⟩ : ∃ m, k = m + 1 := ⟨k - 1, by omega⟩
    simp only [spec_l2Marks.l0]; rw [if_neg (by omega)]
    simp only [spec_l2Marks.j1]; rw [if_neg (by simp), l1In_eq]
    rw [List.take_of_length_le (by omega)] at ht
    simp only [Option.bind_some, isMk, ht, Bool.and_true]
  | succ d ih =>
    intro k i hi' hd hk ht
    obtain ⟨k, rfl⟩ := pred_of_lt hk
    obtain ⟨k, rfl⟩ : ∃ m, k = m + 1 := ⟨k - 1, by omega⟩
    have c1 : (i : Int) < (s.size : Int) := by omega
    have c2 : (0 : Int) ≤ (i : Int) := by omega
    have e : wrap64 ((i : Int) + 1) = ((i + 1 : Nat) : Int) := by rw [wr (by omega) (by omega)]; omega
    simp only [spec_l2Marks.l0, c1, if_true, spec_l2Marks.j1]
    by_cases h200 : (i : Int) ≤ hi
    · have hd2 : decide ((i : Int) ≤ hi) = true := by simpa using h200
      simp only [hd2, c2, if_true, e]
      have hlt : i < s.data.toList.length := by omega
      have next : dotDash (s.data.toList[i]) = true → spec_l2Marks.l0 k s lo hi ((i + 1 : Nat) : Int) = some (isMk s lo hi) := fun hb => ih k (i + 1) (by omega) (by omega) (by omega) (by
        rw [List.take_succ_eq_append_getElem hlt, List.all_append, ht]; simp only [List.all_cons, List.all_nil, hb, Bool.and_true])
      by_cases h0 : bt s (i : Int) = 46
      · rw [if_pos h0]
        exact next (by rw [bt_is s i (by omega) 46 46 (by decide)] at h0; rw [h0]; decide)
      · rw [if_neg h0]
        by_cases h1 : bt s (i : Int) = 45
        · rw [if_pos h1]
          exact next (by rw [bt_is s i (by omega) 45 45 (by decide)] at h1; rw [h1]; decide)
        · rw [if_neg h1]
          rw [bt_is s i (by omega) 46 46 (by decide)] at h0
          rw [bt_is s i (by omega) 45 45 (by decide)] at h1
          have hm : s.data.toList[i] ∈ s.data.toList := List.getElem_mem _
          have hf : s.data.toList.all dotDash = false := by
            rw [List.all_eq_false]; exact ⟨_, hm, by simp only [dotDash, Bool.or_eq_true, beq_iff_eq, h0, h1, or_self, not_false_eq_true]⟩
          simp only [isMk, hf, Bool.and_false]
    · have hd2 : decide ((i : Int) ≤ hi) = false := by simpa using h200
      simp only [hd2, Bool.false_eq_true, if_false]
      have hn : decide ((s.size : Int) ≤ hi) = false := by simp; omega
      rw [l1In_eq]
      simp only [Option.bind_some, isMk, hn, Bool.and_false, Bool.false_and]
theorem l2Marks_eq (s : ByteArray) (hs : s.size ≤ 1048576) (lo hi : Int) (k : Nat) (hk : 2 * s.size + 1 < k) : spec_l2Marks.f k s lo hi = some (isMk s lo hi) := by
  unfold spec_l2Marks.f
  exact l2Marks_l0 s hs lo hi s.size k 0 (by omega) (by omega) hk (by simp)
theorem areMarks_eq (s : ByteArray) (hs : s.size ≤ 1048576) (lo hi : Int) : impl_areMarks.f s lo hi = some (isMk s lo hi) := by
  unfold impl_areMarks.f
  rw [in_eq]
  simp only [Option.bind_some]
  by_cases h : (decide (lo ≤ (s.size : Int)) && decide ((s.size : Int) ≤ hi)) = true
  · rw [if_pos h]
    unfold strings_Trim.f
    rw [if_pos (by omega), if_pos (by decide), if_pos (by decide)]
    simp only [Option.bind_some]
    rw [toList_nil]
    have e : (Lib.trimS s.data.toList [46, 45]).isEmpty = s.data.toList.all dotDash := by
      rw [Bool.eq_iff_iff, List.isEmpty_iff, trimS_nil]
      have : (fun x => [46, 45].contains x) = dotDash := by
        funext x
        simp [dotDash, List.contains_eq_mem]
        rfl
      rw [this]
    show some (Lib.trimS s.data.toList [46, 45]).isEmpty = _
    rw [e]
    simp only [isMk, h, Bool.true_and]
  · rw [if_neg h]
    simp only [isMk, (Bool.not_eq_true _).mp h, Bool.false_and]
theorem in_eq' (a b c : Int) : impl_in.f a b c = some (decide (b ≤ a) && decide (a ≤ c)) := in_eq a b c
/-! a table, as both sides ask for it -/
def has (l : List ByteArray) (a : ByteArray) : Bool := l.any fun b => a.toList == b.toList
def goodT : List ByteArray → List ByteArray → Bool
  | _, [] => true
  | seen, a :: t => isMk a 1 5 && (!has seen a && goodT (seen ++ [a]) t)
def isTab (l : List ByteArray) : Bool := (decide (1 ≤ (l.length : Int)) && decide ((l.length : Int) ≤ 10)) && goodT [] l
theorem take_snoc {α : Type} (l : List α) (i : Nat) (h : i < l.length) : l.take (i + 1) = l.take i ++ [l[i]] := List.take_succ_eq_append_getElem h
theorem drop_cons {α : Type} (l : List α) (i : Nat) (h : i < l.length) : l.drop i = l[i] :: l.drop (i + 1) := List.drop_eq_getElem_cons h
theorem has_take (l : List ByteArray) (a : ByteArray) (i : Nat) (h : i < l.length) : has (l.take (i + 1)) a = (has (l.take i) a || (a.toList == l[i].toList)) := by
  unfold has
  rw [take_snoc l i h, List.any_append]; simp only [List.any_cons, List.any_nil, Bool.or_false]
/-- where a text stands in a list first, or -1 -/
def placeN (l : List ByteArray) (a : ByteArray) : Int := match l.findIdx? (fun b => a.toList == b.toList) with
  | some i => (i : Int)
  | none => -1
theorem place_hit (l : List ByteArray) (a : ByteArray) (i : Nat) (hi : i < l.length) (h1 : has (l.take i) a = false) (h2 : a.toList = l[i].toList) : placeN l a = (i : Int) := by
  unfold placeN
  have : l.findIdx? (fun b => a.toList == b.toList) = some i := by
    rw [List.findIdx?_eq_some_iff_getElem]
    refine ⟨hi, by simpa using h2, fun j hj => ?_⟩
    intro hc
    have hm : l[j] ∈ l.take i := by
      rw [List.mem_take_iff_getElem]
      exact ⟨j, by omega, rfl⟩
    have ht : has (l.take i) a = true := List.any_eq_true.2 ⟨_, hm, hc⟩
    rw [h1] at ht; cases ht
  rw [this]
theorem place_none (l : List ByteArray) (a : ByteArray) (h : has l a = false) : placeN l a = -1 := by
  unfold placeN
  have : l.findIdx? (fun b => a.toList == b.toList) = none := by
    rw [List.findIdx?_eq_none_iff]
    intro x hx
    have := List.any_eq_false.1 h x hx
    simpa using this
  rw [this]
theorem l2Place_l0 (l : List ByteArray) (hl : l.length ≤ 1048576) (a : ByteArray) (d : Nat) : ∀ (k i : Nat), i ≤ l.length → l.length - i = d → d < k → has (l.take i) a = false → spec_l2Place.l0 k l a (i : Int) = some (placeN l a) := by
  induction d with
  | zero =>
    intro k i hi hd hk ht
    obtain ⟨k, rfl⟩ := pred_of_lt hk
    simp only [spec_l2Place.l0]; rw [if_neg (by omega)]
    rw [List.take_of_length_le (by omega)] at ht
    rw [place_none l a ht]
  | succ d ih =>
    intro k i hi hd hk ht
    obtain ⟨k, rfl⟩ := pred_of_lt hk
    have hlt : i < l.length := by omega
    simp only [spec_l2Place.l0]; rw [if_pos (by omega), if_pos (by omega), rdS_get l i hlt]
    by_cases hc : l[i].toList = a.toList
    · rw [if_pos hc, place_hit l a i hlt ht hc.symm]
    · rw [if_neg hc, wr (by omega) (by omega)]
      have e : ((i : Int) + 1) = ((i + 1 : Nat) : Int) := by omega
      rw [e]
      refine ih k (i + 1) (by omega) (by omega) (by omega) ?_
      rw [has_take l a i hlt, ht, Bool.false_or, beq_eq_false_iff_ne]
      exact fun e => hc e.symm
theorem l2Place_eq (l : List ByteArray) (hl : l.length ≤ 1048576) (a : ByteArray) (k : Nat) (hk : l.length < k) : spec_l2Place.f k l a = some (placeN l a) := by
  unfold spec_l2Place.f
  exact l2Place_l0 l hl a l.length k 0 (by omega) (by omega) hk (by simp [has])
theorem sIndex_l0 (l : List ByteArray) (hl : l.length ≤ 1048576) (a : ByteArray) (d : Nat) : ∀ (k i : Nat), i ≤ l.length → l.length - i = d → d < k → has (l.take i) a = false → slices_Index_string_string.l0 k l a (l.length : Int) (i : Int) = some (placeN l a) := by
  induction d with
  | zero =>
    intro k i hi hd hk ht
    obtain ⟨k, rfl⟩ := pred_of_lt hk
    simp only [slices_Index_string_string.l0]; rw [if_neg (by omega)]
    rw [List.take_of_length_le (by omega)] at ht
    rw [place_none l a ht]
  | succ d ih =>
    intro k i hi hd hk ht
    obtain ⟨k, rfl⟩ := pred_of_lt hk
    have hlt : i < l.length := by omega
    simp only [slices_Index_string_string.l0]; rw [if_pos (by omega), if_pos (by omega), if_pos (by omega), rdS_get l i hlt]
    by_cases hc : a.toList = l[i].toList
    · rw [if_pos hc, place_hit l a i hlt ht hc]
    · rw [if_neg hc, wr (by omega) (by omega)]
      have e : ((i : Int) + 1) = ((i + 1 : Nat) : Int) := by omega
      rw [e]
      refine ih k (i + 1) (by omega) (by omega) (by omega) ?_
      rw [has_take l a i hlt, ht, Bool.false_or, beq_eq_false_iff_ne]
      exact hc
theorem sIndex_eq (l : List ByteArray) (hl : l.length ≤ 1048576) (a : ByteArray) (k : Nat) (hk : l.length < k) : slices_Index_string_string.f k l a = some (placeN l a) := by
  unfold slices_Index_string_string.f
  exact sIndex_l0 l hl a l.length k 0 (by omega) (by omega) hk (by simp [has])
theorem place_has (l : List ByteArray) (a : ByteArray) : decide (placeN l a ≥ 0) = has l a := by
  by_cases h : has l a = true
  · obtain ⟨x, hx, hb⟩ := List.any_eq_true.1 h
    unfold placeN
    cases hf : l.findIdx? (fun b => a.toList == b.toList) with
    | none =>
      have := List.findIdx?_eq_none_iff.1 hf x hx
      rw [hb] at this; cases this
    | some i => rw [h]; simp
  · rw [place_none l a ((Bool.not_eq_true _).mp h), (Bool.not_eq_true _).mp h]; decide
theorem sContains_eq (l : List ByteArray) (hl : l.length ≤ 1048576) (a : ByteArray) (k : Nat) (hk : l.length < k) : slices_Contains_string_string.f k l a = some (has l a) := by
  unfold slices_Contains_string_string.f
  rw [sIndex_eq l hl a k hk]
  simp only [Option.bind_some]
  rw [place_has]
theorem place_self (l : List ByteArray) (i : Nat) (hi : i < l.length) : (placeN l l[i] = (i : Int)) ↔ has (l.take i) l[i] = false := by
  constructor
  · intro h
    by_cases hc : has (l.take i) l[i] = true
    · exfalso
      obtain ⟨x, hx, hb⟩ := List.any_eq_true.1 hc
      obtain ⟨j, hj, rfl⟩ := List.getElem_of_mem hx
      rw [List.length_take] at hj
      unfold placeN at h
      cases hf : l.findIdx? (fun b => l[i].toList == b.toList) with
      | none => rw [hf] at h; simp at h
      | some m =>
        rw [hf] at h
        have hm : m = i := by
          have h' : (m : Int) = (i : Int) := h
          omega
        subst hm
        have := (List.findIdx?_eq_some_iff_getElem.1 hf).2.2 j (by omega)
        rw [List.getElem_take] at hb
        exact this hb
    · exact (Bool.not_eq_true _).mp hc
  · intro h
    exact place_hit l l[i] i hi h rfl
theorem l2Table_l0 (l : List ByteArray) (hl : l.length ≤ 1048576) (hs : ∀ s ∈ l, s.size ≤ 1048576) (M : Nat) (hM : l.length + 2097160 ≤ M) (d : Nat) : ∀ (k i : Nat), i ≤ l.length → l.length - i = d → M + d < k → spec_l2Table.l0 k (i : Int) l = some (goodT (l.take i) (l.drop i)) := by
  induction d with
  | zero =>
    intro k i hi hd hk
    obtain ⟨k, rfl⟩ := pred_of_lt hk
    simp only [spec_l2Table.l0]; rw [if_neg (by omega), List.drop_eq_nil_of_le (by omega)]
    simp [goodT]
  | succ d ih =>
    intro k i hi hd hk
    obtain ⟨k, rfl⟩ := pred_of_lt hk
    have hlt : i < l.length := by omega
    have hz := hs _ (List.getElem_mem hlt)
    rw [drop_cons l i hlt]
    simp only [spec_l2Table.l0]; rw [if_pos (by omega), if_pos (by omega), rdS_get l i hlt, l2Marks_eq _ hz 1 5 k (by omega), l2Place_eq l hl _ k (by omega)]
    simp only [Option.bind_some, goodT]
    by_cases h1 : isMk l[i] 1 5 = true
    · rw [if_pos h1, h1, Bool.true_and]
      by_cases h2 : placeN l l[i] = (i : Int)
      · rw [if_pos h2, (place_self l i hlt).1 h2, wr (by omega) (by omega)]
        have e : ((i : Int) + 1) = ((i + 1 : Nat) : Int) := by omega
        rw [e, ih k (i + 1) (by omega) (by omega) (by omega), take_snoc l i hlt]
        simp
      · rw [if_neg h2]
        have : has (l.take i) l[i] = true := by
          by_cases hc : has (l.take i) l[i] = true
          · exact hc
          · exact absurd ((place_self l i hlt).2 ((Bool.not_eq_true _).mp hc)) h2
        rw [this]; simp
    · rw [if_neg h1, (Bool.not_eq_true _).mp h1]; simp
theorem l2Table_eq (l : List ByteArray) (hl : l.length ≤ 1048576) (hs : ∀ s ∈ l, s.size ≤ 1048576) (k : Nat) (hk : 4194400 ≤ k) : spec_l2Table.f k l = some (isTab l) := by
  unfold spec_l2Table.f
  rw [l1In_eq]
  simp only [Option.bind_some]
  by_cases h : (decide (1 ≤ (l.length : Int)) && decide ((l.length : Int) ≤ 10)) = true
  · rw [if_pos h]
    have h10 : l.length ≤ 10 := by simp only [Bool.and_eq_true, decide_eq_true_eq] at h; omega
    have := l2Table_l0 l hl hs (l.length + 2097160) (by omega) l.length k 0 (by omega) (by omega) (by omega)
    rw [List.take_zero, List.drop_zero] at this
    simp only [isTab, h, Bool.true_and]
    exact this
  · rw [if_neg h]; simp only [isTab, (Bool.not_eq_true _).mp h, Bool.false_and]
theorem isLetterMarks_eq (s : ByteArray) (hs : s.size ≤ 1048576) : impl_isLetterMarks.f s = some (isMk s 1 5) := by
  unfold impl_isLetterMarks.f
  rw [areMarks_eq s hs]; rfl
theorem isTable_l0 (l : List ByteArray) (hl : l.length ≤ 1048576) (hs : ∀ s ∈ l, s.size ≤ 1048576) (d : Nat) : ∀ (k i : Nat), i ≤ l.length → l.length - i = d → l.length + d < k →
    impl_isTable.l0 k l (l.length : Int) (i : Int) l = some (goodT (l.take i) (l.drop i) && (decide (1 ≤ (l.length : Int)) && decide ((l.length : Int) ≤ 10))) := by
  induction d with
  | zero =>
    intro k i hi hd hk
    obtain ⟨k, rfl⟩ := pred_of_lt hk
    simp only [impl_isTable.l0]; rw [if_neg (by omega), List.drop_eq_nil_of_le (by omega), in_eq]
    simp [goodT]
  | succ d ih =>
    intro k i hi hd hk
    obtain ⟨k, rfl⟩ := pred_of_lt hk
    have hlt : i < l.length := by omega
    have hz := hs _ (List.getElem_mem hlt)
    have c1 : (i : Int) ≤ (l.length : Int) := by omega
    rw [drop_cons l i hlt]
    simp only [impl_isTable.l0]; rw [if_pos (by omega), if_pos (by omega), if_pos (by omega), rdS_get l i hlt, isLetterMarks_eq _ hz]
    simp only [Option.bind_some, goodT]
    by_cases h1 : isMk l[i] 1 5 = true
    · rw [if_pos h1, h1, Bool.true_and, if_pos c1, Int.toNat_natCast, sContains_eq _ (by rw [List.length_take]; omega) _ k (by rw [List.length_take]; omega)]
      simp only [Option.bind_some]
      by_cases h2 : has (l.take i) l[i] = true
      · rw [if_pos h2, h2]; simp
      · rw [if_neg h2, (Bool.not_eq_true _).mp h2, wr (by omega) (by omega)]
        have e : ((i : Int) + 1) = ((i + 1 : Nat) : Int) := by omega
        rw [e, ih k (i + 1) (by omega) (by omega) (by omega), take_snoc l i hlt]
        simp
    · rw [if_neg h1, (Bool.not_eq_true _).mp h1]; simp
theorem isTable_eq (l : List ByteArray) (hl : l.length ≤ 1048576) (hs : ∀ s ∈ l, s.size ≤ 1048576) (k : Nat) (hk : 4194400 ≤ k) : impl_isTable.f k l = some (isTab l) := by
  unfold impl_isTable.f
  have := isTable_l0 l hl hs l.length k 0 (by omega) (by omega) (by omega)
  rw [List.take_zero, List.drop_zero] at this
  rw [show isTab l = (goodT [] l && (decide (1 ≤ (l.length : Int)) && decide ((l.length : Int) ≤ 10))) from Bool.and_comm _ _]
  exact this
/-! a text as a list of bytes, and as a list of numbers -/
def txt (l : List UInt8) : ByteArray := ⟨l.toArray⟩
theorem txt_data (l : List UInt8) : (txt l).data.toList = l := rfl
theorem txt_size (l : List UInt8) : (txt l).size = l.length := by rw [← size_data, txt_data]
theorem txt_of (s : ByteArray) : txt s.data.toList = s := rfl
theorem txt_app (l m : List UInt8) : txt l ++ txt m = txt (l ++ m) := by
  apply ByteArray.ext
  apply Array.toList_inj.1
  rw [ByteArray.data_append, Array.toList_append]
  rfl
/-! texts joined by one byte -/
/-- the texts joined -/
def joinB (c : UInt8) (l : List ByteArray) : ByteArray := txt (Lib.join (l.map (·.data.toList)) [c])
theorem joinL_snoc (c : List UInt8) (l : List (List UInt8)) (x : List UInt8) (h : l ≠ []) : Lib.join (l ++ [x]) c = Lib.join l c ++ c ++ x := by
  unfold Lib.join
  induction l with
  | nil => exact absurd rfl h
  | cons a l ih =>
    cases l with
    | nil => simp [List.intercalate, List.intersperse]
    | cons b l =>
      have := ih (by simp)
      simp only [List.intercalate, List.cons_append, List.intersperse, List.flatten_cons] at this ⊢
      rw [this]; simp
theorem joinB_one (c : UInt8) (x : ByteArray) : joinB c [x] = x := by
  unfold joinB
  rw [List.map_cons, List.map_nil, Lib.join_one, txt_of]
theorem joinB_snoc (c : UInt8) (l : List ByteArray) (x : ByteArray) (h : l ≠ []) : joinB c (l ++ [x]) = (joinB c l ++ ⟨#[c]⟩) ++ x := by
  unfold joinB
  rw [List.map_append, List.map_cons, List.map_nil, joinL_snoc _ _ _ (by simpa using h)]
  rw [← txt_app, ← txt_app, txt_of]; rfl
/-- how much the joined texts take -/
def sumZ (l : List ByteArray) : Int := (l.map fun s => (s.size : Int)).sum
theorem sumZ_snoc (l : List ByteArray) (x : ByteArray) : sumZ (l ++ [x]) = sumZ l + (x.size : Int) := by simp [sumZ]
theorem sumZ_nonneg (l : List ByteArray) : 0 ≤ sumZ l := by
  induction l with
  | nil => simp [sumZ]
  | cons a l ih => simp only [sumZ, List.map_cons, List.sum_cons] at ih ⊢; omega
theorem joinL_len (c : UInt8) : ∀ l : List (List UInt8), l ≠ [] → (Lib.join l [c]).length + 1 = (l.map fun s => s.length + 1).sum
  | [], h => absurd rfl h
  | [a], _ => by rw [Lib.join_one]; simp
  | a :: b :: l, _ => by
    have ih := joinL_len c (b :: l) (by simp)
    have e : Lib.join (a :: b :: l) [c] = a ++ ([c] ++ Lib.join (b :: l) [c]) := by
      unfold Lib.join
      simp [List.intercalate, List.intersperse]
    rw [e, List.length_append, List.length_append, List.map_cons, List.sum_cons, ← ih, List.length_singleton]
    omega
theorem sums (l : List ByteArray) : ((((l.map (·.data.toList)).map fun s => s.length + 1).sum : Nat) : Int) = sumZ l + (l.length : Int) := by
  induction l with
  | nil => rfl
  | cons a l ih =>
    have := size_data a
    simp only [sumZ, List.map_cons, List.sum_cons, List.length_cons] at ih ⊢
    omega
theorem joinB_size (c : UInt8) (l : List ByteArray) (h : l ≠ []) : ((joinB c l).size : Int) = sumZ l + ((l.length : Int) - 1) := by
  have h1 := joinL_len c (l.map (·.data.toList)) (by simpa using h)
  have h2 := sums l
  have h3 : (joinB c l).size = (Lib.join (l.map (·.data.toList)) [c]).length := txt_size _
  omega
theorem sumZ_append (l m : List ByteArray) : sumZ (l ++ m) = sumZ l + sumZ m := by simp [sumZ]
theorem sumZ_take (l : List ByteArray) (i : Nat) : sumZ (l.take i) ≤ sumZ l := by
  have h := sumZ_append (l.take i) (l.drop i)
  rw [List.take_append_drop] at h
  have := sumZ_nonneg (l.drop i)
  omega
theorem sumZ_le (l : List ByteArray) (h : ∀ s ∈ l, s.size ≤ 1048576) : sumZ l ≤ 1048576 * (l.length : Int) := by
  induction l with
  | nil => simp [sumZ]
  | cons a l ih =>
    have h1 := ih fun s hs => h s (List.mem_cons_of_mem _ hs)
    have h2 := h a List.mem_cons_self
    simp only [sumZ, List.map_cons, List.sum_cons, List.length_cons] at h1 ⊢
    omega
theorem sumZ_nil : sumZ [] = 0 := rfl
attribute [local irreducible] sumZ
theorem take_snocB (l : List ByteArray) (i : Nat) (h : i < l.length) : l.take (i + 1) = l.take i ++ [l[i]] := List.take_succ_eq_append_getElem h
theorem join_full (c : UInt8) (l : List ByteArray) (hl : l.length ≤ 1048576) (h : l ≠ []) (hz : sumZ l + ((l.length : Int) - 1) ≤ 100000000000) : strings_Join.f l ⟨#[c]⟩ = some (joinB c l) := by
  have hs := joinB_size c l h
  have hsz : (joinB c l).size = (Lib.join (l.map (·.data.toList)) [c]).length := txt_size _
  unfold strings_Join.f
  rw [if_pos (by omega)]
  show (if (Lib.join (l.map (·.data.toList)) [c]).length ≤ 140737488355328 then some (joinB c l) else none) = _
  rw [if_pos (by omega)]
theorem l2Text_l0 (l : List ByteArray) (hl : l.length ≤ 10) (hs : ∀ s ∈ l, s.size ≤ 1048576) (hp : 0 < l.length) (d : Nat) : ∀ (k i : Nat), i ≤ l.length → l.length - i = d → d < k →
    spec_l2Text.l0 k (joinB 44 (l.take i)) (i : Int) l = some (joinB 44 l) := by
  have hle0 := sumZ_le l hs
  induction d with
  | zero =>
    intro k i hi hd hk
    obtain ⟨k, rfl⟩ := pred_of_lt hk
    simp only [spec_l2Text.l0]
    rw [if_neg (by omega), List.take_of_length_le (by omega)]
  | succ d ih =>
    intro k i hi hd hk
    obtain ⟨k, rfl⟩ := pred_of_lt hk
    have hlt : i < l.length := by omega
    obtain ⟨x, hx, hget, hsn⟩ : ∃ x : ByteArray, x.size ≤ 1048576 ∧ rdOf ByteArray.empty l (i : Int) = x ∧ l.take (i + 1) = l.take i ++ [x] :=
      ⟨l[i], hs _ (List.getElem_mem hlt), rdS_get l i hlt, take_snocB l i hlt⟩
    have h1 : (⟨#[44]⟩ : ByteArray).size = 1 := rfl
    have hnn := sumZ_nonneg (l.take i)
    have hle := sumZ_take l i
    have c1 : (i : Int) < (l.length : Int) := by omega
    have c2 : (0 : Int) ≤ (i : Int) := by omega
    have n := ih k (i + 1) hlt (by rw [Nat.sub_add_eq, hd]; rfl) (by clear ih; omega)
    have e1 : wrap64 ((i : Int) + 1) = ((i + 1 : Nat) : Int) := by clear ih n; rw [wr (by omega) (by omega)]; omega
    simp only [spec_l2Text.l0, c1, c2, if_true, hget, e1]
    clear e1 ih
    by_cases h0 : (i : Int) > 0
    · have hne : l.take i ≠ [] := by
        intro e
        have hlen : (l.take i).length = min i l.length := List.length_take
        rw [e] at hlen
        simp only [List.length_nil] at hlen
        omega
      have hjs := joinB_size 44 (l.take i) hne
      have hlt2 : (l.take i).length = i := by rw [List.length_take]; omega
      rw [hlt2] at hjs
      have hj : (joinB 44 (l.take i) ++ ⟨#[44]⟩) ++ x = joinB 44 (l.take (i + 1)) := by rw [hsn, joinB_snoc 44 _ x hne]
      rw [if_pos h0, if_pos (by omega), if_pos (by rw [ByteArray.size_append]; omega), hj]
      exact n
    · have hi0 : i = 0 := by omega
      subst hi0
      have hj0 : joinB 44 (l.take 0) ++ x = joinB 44 (l.take (0 + 1)) := by
        rw [hsn, List.take_zero, List.nil_append, joinB_one]
        show txt [] ++ x = x
        rw [← txt_of x, txt_app]; rfl
      have hjz : (joinB 44 (l.take 0)).size = 0 := rfl
      rw [if_neg h0, if_pos (by omega), hj0]
      exact n
theorem isTab_len (l : List ByteArray) (h : isTab l = true) : 1 ≤ l.length ∧ l.length ≤ 10 := by
  simp only [isTab, Bool.and_eq_true, decide_eq_true_eq] at h
  omega
theorem textAns (l : List ByteArray) (h1 : l.length ≤ 1048576) (h2 : ∀ s ∈ l, s.size ≤ 1048576) : ∃ R, ∀ k, 4194400 ≤ k → spec_TableText.f k l = some R ∧ impl_TableText.f k l = some R := by
  by_cases ht : isTab l = true
  · obtain ⟨b1, b2⟩ := isTab_len l ht
    have hle := sumZ_le l h2
    have hne : l ≠ [] := fun e => by rw [e] at b1; simp at b1
    refine ⟨(joinB 44 l, true), fun k hk => ?_⟩
    have s := l2Text_l0 l b2 h2 (by omega) l.length k 0 (by omega) (by omega) (by omega)
    have j := join_full 44 l h1 hne (by omega)
    unfold spec_TableText.f impl_TableText.f spec_l2Text.f
    rw [l2Table_eq l h1 h2 _ (by omega), isTable_eq l h1 h2 _ (by omega), ht]
    simp only [Option.bind_some, if_true]
    rw [j]
    have s' : spec_l2Text.l0 k ⟨#[]⟩ 0 l = some (joinB 44 l) := s
    rw [s']
    exact ⟨rfl, rfl⟩
  · refine ⟨(⟨#[]⟩, false), fun k hk => ?_⟩
    unfold spec_TableText.f impl_TableText.f
    rw [l2Table_eq l h1 h2 _ (by omega), isTable_eq l h1 h2 _ (by omega), (Bool.not_eq_true _).mp ht]
    exact ⟨rfl, rfl⟩
theorem FnExactTableText : laws_FnExactTableText.Pure := by
  intro l hl hs
  obtain ⟨t, ht, hb⟩ := szTable_eq l hl hs
  by_cases h0 : t < 0
  · refine ⟨l.length + 1, ?_⟩
    unfold laws_FnExactTableText.f
    rw [ht _ (by omega)]
    simp only [Option.bind_some, h0, if_true]
  · obtain ⟨h1, h2⟩ := hb (by omega)
    obtain ⟨R, hR⟩ := textAns l h1 h2
    obtain ⟨M, hM⟩ : ∃ M : Nat, 4194400 ≤ M := ⟨4194400, Nat.le_refl _⟩
    refine ⟨M + 1, ?_⟩
    have r := hR (M + 1) (by omega)
    unfold laws_FnExactTableText.f
    rw [ht _ (by omega)]
    simp only [Option.bind_some, h0, if_false, toTable_eq l h1 (M + 1) (by omega), r.1, r.2, if_true, bne_self_eq_false]
    simp only [laws_FnExactTableText.j0, toTable_eq l h1 M (by omega), eqTable_self l h1 M (by omega), Option.bind_some, Bool.false_eq_true, if_false, if_true]

end Go.Proofs.YtajocpgghdmimaaDoor.Pure
