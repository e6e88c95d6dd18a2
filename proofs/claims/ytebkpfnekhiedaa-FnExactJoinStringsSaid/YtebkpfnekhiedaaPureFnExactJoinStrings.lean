/- JoinStrings of the program and of the reference answer alike at every list of texts and every text. -/
import Derived.Test.YtebkpfnekhiedaaHFnExactJoinStringsx2
namespace Go.Proofs.Ytebkpfnekhiedaa.Pure
open Go.RowKit Go.Proofs.Ytebkpfnekhiedaa.HFnExactJoinStrings Go.Proofs.YtebkpfnekhiedaaW.PrintWords Go.Proofs.YtebkpfnekhiedaaW.PrintLast
set_option linter.unusedVariables false
set_option linter.unusedSimpArgs false
set_option linter.unnecessarySimpa false

theorem wr {i : Int} (h0 : -9223372036854775808 ≤ i) (h1 : i ≤ 9223372036854775807) : wrap64 i = i := by unfold wrap64; omega
theorem rd_nat (xs : List Int) (i : Nat) : rd xs (i : Int) = xs.getD i 0 := by simp [rd]
theorem rd_get (xs : List Int) (i : Nat) (h : i < xs.length) : rd xs (i : Int) = xs[i] := by simp [rd, h]
theorem pred_of_lt {d k : Nat} (h : d < k) : ∃ m, k = m + 1 := ⟨k - 1, by omega⟩
/-! bytes of a text -/
theorem size_data (s : ByteArray) : s.data.toList.length = s.size := Array.length_toList
theorem bt_nat (s : ByteArray) (i : Nat) (h : i < s.size) : bt s (i : Int) = ((s.data.toList[i]'(by rw [size_data]; exact h)).toNat : Int) := by
  have := bt_at s (i : Int) (by simpa using h)
  rw [← this]
  rfl
theorem byte_num (b c : UInt8) (n : Nat) (hc : c.toNat = n) : ((b.toNat : Int) = (n : Int)) ↔ b = c := by
  constructor
  · intro h
    exact UInt8.toNat_inj.1 (by omega)
  · rintro rfl; omega
/-! what is left when bytes of a set are taken off both ends -/
theorem dropWhile_nil {p : UInt8 → Bool} (l : List UInt8) : l.dropWhile p = [] ↔ l.all p = true := by
  induction l with
  | nil => simp
  | cons a l ih =>
    rw [List.dropWhile_cons]
    by_cases h : p a = true
    · rw [if_pos h, ih]; simp [h]
    · rw [if_neg h]; simp [h]
theorem toList_nil (l : List UInt8) : ((⟨l.toArray⟩ : ByteArray).toList == ([] : List UInt8)) = l.isEmpty := by
  have : (⟨l.toArray⟩ : ByteArray).toList = l := by
    rw [ByteArray.toList_eq]
  rw [this]
  cases l <;> rfl
theorem bt_is (s : ByteArray) (i : Nat) (h : i < s.size) (c : UInt8) (n : Int) (hc : (c.toNat : Int) = n) : (bt s (i : Int) = n) ↔ (s.data.toList[i]'(by rw [size_data]; exact h)) = c := by
  rw [bt_nat s i h, ← hc]
  constructor
  · intro e; exact UInt8.toNat_inj.1 (by omega)
  · intro e; rw [e]
/-! lists of texts: their sizes, copies, comparisons -/
theorem rdS_get (xs : List ByteArray) (i : Nat) (h : i < xs.length) : rdOf ByteArray.empty xs (i : Int) = xs[i] := by simp [rdOf, h]
theorem toList_inj (a b : ByteArray) : a.toList = b.toList ↔ a = b := by
  rw [ByteArray.toList_eq, ByteArray.toList_eq]
  constructor
  · intro h; exact ByteArray.ext (Array.toList_inj.1 h)
  · rintro rfl; rfl
theorem szStringS_l0 (l : List ByteArray) (hl : l.length ≤ maxLen) (hs : ∀ s ∈ l, s.size ≤ maxLen) (d : Nat) : ∀ (i : Nat) (left : Int), 0 ≤ left → left ≤ 1048576 → i ≤ l.length → l.length - i = d →
    ∃ t : Int, (∀ k, d < k → laws_szStringS.l0 k l left (i : Int) = some t) ∧ t ≤ left ∧ (0 ≤ t → ∀ j (h : j < l.length), i ≤ j → (l[j].size : Int) ≤ left) := by
  unfold maxLen at hl hs
  induction d with
  | zero =>
    intro i left h0 h1 hi hd
    refine ⟨left, fun k hk => ?_, by omega, fun _ j h hij => by omega⟩
    obtain ⟨k, rfl⟩ := pred_of_lt hk
    simp only [laws_szStringS.l0]; rw [if_neg (by omega)]
  | succ d ih =>
    intro i left h0 h1 hi hd
    have hlt : i < l.length := by omega
    have hsz := hs _ (List.getElem_mem hlt)
    have c1 : (i : Int) < (l.length : Int) := by omega
    have c2 : (0 : Int) ≤ (i : Int) := by omega
    have e1 : wrap64 ((i : Int) + 1) = ((i + 1 : Nat) : Int) := by rw [wr (by omega) (by omega)]; omega
    have e2 : wrap64 (left - (l[i].size : Int)) = left - (l[i].size : Int) := by rw [wr (by omega) (by omega)]
    by_cases hc : left - (l[i].size : Int) < 0
    · refine ⟨-1, fun k hk => ?_, by omega, fun h => by omega⟩
      obtain ⟨k, rfl⟩ := pred_of_lt hk
      simp only [laws_szStringS.l0, c1, c2, if_true, rdS_get l i hlt, e2, hc]
    · obtain ⟨t, ht, h2, h3⟩ := ih (i + 1) (left - (l[i].size : Int)) (by omega) (by omega) (by omega) (by omega)
      refine ⟨t, fun k hk => ?_, by omega, fun h0t j h hij => ?_⟩
      · obtain ⟨k, rfl⟩ := pred_of_lt hk
        simp only [laws_szStringS.l0, c1, c2, if_true, rdS_get l i hlt, e2, hc, if_false, e1]
        exact ht k (by omega)
      · by_cases hji : i = j
        · subst hji; omega
        · have := h3 h0t j h (by omega); omega
theorem szStringS_eq (l : List ByteArray) (hl : l.length ≤ maxLen) (hs : ∀ s ∈ l, s.size ≤ maxLen) : ∃ t : Int, (∀ k, l.length < k → laws_szStringS.f k l 1048576 = some t) ∧ (0 ≤ t → l.length ≤ 1048576 ∧ ∀ s ∈ l, s.size ≤ 1048576) := by
  have hl' := hl
  unfold maxLen at hl'
  have e : wrap64 (1048576 - (l.length : Int)) = 1048576 - (l.length : Int) := by rw [wr (by omega) (by omega)]
  by_cases hc : 1048576 - (l.length : Int) < 0
  · refine ⟨-1, fun k hk => ?_, fun h => by omega⟩
    unfold laws_szStringS.f
    rw [e, if_pos hc]
  · obtain ⟨t, ht, h2, h3⟩ := szStringS_l0 l hl hs l.length 0 (1048576 - (l.length : Int)) (by omega) (by omega) (by omega) (by omega)
    refine ⟨t, fun k hk => ?_, fun h0 => ⟨by omega, fun s hsm => ?_⟩⟩
    · unfold laws_szStringS.f
      rw [e, if_neg hc]
      exact ht k hk
    · obtain ⟨j, hj, rfl⟩ := List.getElem_of_mem hsm
      have := h3 h0 j hj (by omega)
      omega
theorem toStringS_l0 (x0 : List ByteArray) (hx : x0.length ≤ 1048576) (d : Nat) : ∀ (k i : Nat) (x3 : List ByteArray), i ≤ x0.length → x0.length - i = d → d < k → x3.length = x0.length → (∀ j, j < i → x3[j]? = x0[j]?) →
    laws_toStringS.l0 k x0 x3 (i : Int) = some x0 := by
  induction d with
  | zero =>
    intro k i x3 hi hd hk hl ht
    obtain ⟨k, rfl⟩ := pred_of_lt hk
    simp only [laws_toStringS.l0]; rw [if_neg (by omega)]
    refine congrArg some (List.ext_getElem? fun j => ?_)
    by_cases hj : j < i
    · exact ht j hj
    · rw [List.getElem?_eq_none (by omega), List.getElem?_eq_none (by omega)]
  | succ d ih =>
    intro k i x3 hi hd hk hl ht
    obtain ⟨k, rfl⟩ := pred_of_lt hk
    simp only [laws_toStringS.l0]; rw [if_pos (by omega), if_pos (by omega), if_pos (by omega), wr (by omega) (by omega)]
    have e : ((i : Int) + 1) = ((i + 1 : Nat) : Int) := by omega
    rw [e, Int.toNat_natCast, rdS_get x0 i (by omega)]
    refine ih k (i + 1) _ (by omega) (by omega) (by omega) (by simpa using hl) fun j hj => ?_
    rw [List.getElem?_set]
    by_cases hji : i = j
    · subst hji
      simp [show i < x3.length by omega, show i < x0.length by omega]
    · rw [if_neg hji]; exact ht j (by omega)
theorem toStringS_eq (l : List ByteArray) (h : l.length ≤ 1048576) (k : Nat) (hk : l.length < k) : laws_toStringS.f k l = some l := by
  unfold laws_toStringS.f
  rw [if_pos (by omega), if_pos (by omega)]
  exact toStringS_l0 l (by omega) l.length k 0 _ (by omega) (by omega) hk (by simp) (fun j hj => by omega)
theorem eqStringS_l0 (a : List ByteArray) (ha : a.length ≤ 1048576) (d : Nat) : ∀ (k i : Nat), i ≤ a.length → a.length - i = d → d < k → laws_eqStringS.l0 k a a (i : Int) = some true := by
  induction d with
  | zero =>
    intro k i hi hd hk
    obtain ⟨k, rfl⟩ := pred_of_lt hk
    simp only [laws_eqStringS.l0]; rw [if_neg (by omega)]
  | succ d ih =>
    intro k i hi hd hk
    obtain ⟨k, rfl⟩ := pred_of_lt hk
    simp only [laws_eqStringS.l0, if_true]; rw [if_pos (by omega), if_pos (by omega), if_pos (by omega), wr (by omega) (by omega)]
    have e : ((i : Int) + 1) = ((i + 1 : Nat) : Int) := by omega
    rw [e]
    exact ih k (i + 1) (by omega) (by omega) (by omega)
theorem eqStringS_self (a : List ByteArray) (ha : a.length ≤ 1048576) (k : Nat) (hk : a.length < k) : laws_eqStringS.f k a a = some true := by
  unfold laws_eqStringS.f
  rw [if_pos rfl]
  exact eqStringS_l0 a ha a.length k 0 (by omega) (by omega) hk
/-! a text as a list of bytes, and as a list of numbers -/
def txt (l : List UInt8) : ByteArray := ⟨l.toArray⟩
theorem txt_data (l : List UInt8) : (txt l).data.toList = l := rfl
theorem txt_size (l : List UInt8) : (txt l).size = l.length := by rw [← size_data, txt_data]
theorem txt_of (s : ByteArray) : txt s.data.toList = s := rfl
theorem txt_app (l m : List UInt8) : txt l ++ txt m = txt (l ++ m) := by
  apply ByteArray.ext
  apply Array.toList_inj.1
  rw [ByteArray.data_append, Array.toList_append]
  rfl
def hasB (c : UInt8) (s : ByteArray) : Bool := s.data.toList.any fun b => b == c
theorem idx_has (l : List UInt8) (c : UInt8) : (0 ≤ Lib.indexByte l c) ↔ (l.any fun b => b == c) = true := by
  induction l with
  | nil => exact ⟨fun h => absurd (show (0 : Int) ≤ -1 from h) (by decide), fun h => by cases h⟩
  | cons b l ih =>
    have hge := Lib.indexByte_ge l c
    have e : Lib.indexByte (b :: l) c = if (b == c) = true then 0 else if (Lib.indexByte l c == -1) = true then -1 else Lib.indexByte l c + 1 := rfl
    rw [e, List.any_cons]
    by_cases h : (b == c) = true
    · rw [if_pos h, h]; simp
    · rw [if_neg h, (Bool.not_eq_true _).mp h, Bool.false_or, ← ih]
      by_cases h1 : (Lib.indexByte l c == -1) = true
      · rw [if_pos h1]
        have := beq_iff_eq.1 h1
        rw [this]
      · rw [if_neg h1]
        have h2 : Lib.indexByte l c ≠ -1 := fun e => h1 (beq_iff_eq.2 e)
        omega
theorem l1Stands_l0 (s : ByteArray) (hs : s.size ≤ 1048576) (c : UInt8) (d : Nat) : ∀ (k i : Nat), i ≤ s.size → s.size - i = d → d < k → (s.data.toList.take i).any (fun b => b == c) = false → spec_l1Stands.l0 k s (c.toNat : Int) (i : Int) = some (hasB c s) := by
  have hsz := size_data s
  induction d with
  | zero =>
    intro k i hi hd hk ht
    obtain ⟨k, rfl⟩ := pred_of_lt hk
    simp only [spec_l1Stands.l0]
    rw [List.take_of_length_le (by omega)] at ht
    rw [if_neg (by omega)]; unfold hasB; rw [ht]
  | succ d ih =>
    intro k i hi hd hk ht
    obtain ⟨k, rfl⟩ := pred_of_lt hk
    have hlt : i < s.data.toList.length := by omega
    have e1 : wrap64 ((i : Int) + 1) = ((i + 1 : Nat) : Int) := by rw [wr (by omega) (by omega)]; omega
    simp only [spec_l1Stands.l0]
    rw [if_pos (by omega), if_pos (by omega), e1]
    by_cases hc : bt s (i : Int) = (c.toNat : Int)
    · rw [if_pos hc]
      rw [bt_is s i (by omega) c _ rfl] at hc
      have : hasB c s = true := List.any_eq_true.2 ⟨s.data.toList[i], List.getElem_mem _, by rw [hc]; exact beq_self_eq_true c⟩
      rw [this]
    · rw [if_neg hc]
      rw [bt_is s i (by omega) c _ rfl] at hc
      refine ih k (i + 1) (by omega) (by omega) (by omega) ?_
      rw [List.take_succ_eq_append_getElem hlt, List.any_append, ht, Bool.false_or]
      simp only [List.any_cons, List.any_nil, Bool.or_false]
      exact beq_eq_false_iff_ne.2 hc
theorem l1Stands_eq (s : ByteArray) (hs : s.size ≤ 1048576) (c : UInt8) (k : Nat) (hk : s.size < k) : spec_l1Stands.f k s (c.toNat : Int) = some (hasB c s) := by
  unfold spec_l1Stands.f
  exact l1Stands_l0 s hs c s.size k 0 (by omega) (by omega) hk (by simp)
theorem contains_eq (s : ByteArray) (c : UInt8) : strings_Contains.f s ⟨#[c]⟩ = some (hasB c s) := by
  show some (decide (0 ≤ Lib.indexByte s.data.toList c)) = _
  refine congrArg some ?_
  rw [Bool.eq_iff_iff, decide_eq_true_eq]
  exact idx_has _ _
/-- the texts joined -/
def joinB (c : UInt8) (l : List ByteArray) : ByteArray := txt (Lib.join (l.map (·.data.toList)) [c])
theorem joinL_snoc (c : List UInt8) (l : List (List UInt8)) (x : List UInt8) (h : l ≠ []) : Lib.join (l ++ [x]) c = Lib.join l c ++ c ++ x := by
  unfold Lib.join
  induction l with
  | nil => exact absurd rfl h
  | cons a l ih =>
    cases l with
    | nil => simp [List.intercalate, List.intersperse]
    | cons b l =>
      have := ih (by simp)
      simp only [List.intercalate, List.cons_append, List.intersperse, List.flatten_cons] at this ⊢
      rw [this]; simp
theorem joinB_one (c : UInt8) (x : ByteArray) : joinB c [x] = x := by
  unfold joinB
  rw [List.map_cons, List.map_nil, Lib.join_one, txt_of]
theorem joinB_snoc (c : UInt8) (l : List ByteArray) (x : ByteArray) (h : l ≠ []) : joinB c (l ++ [x]) = (joinB c l ++ ⟨#[c]⟩) ++ x := by
  unfold joinB
  rw [List.map_append, List.map_cons, List.map_nil, joinL_snoc _ _ _ (by simpa using h)]
  rw [← txt_app, ← txt_app, txt_of]; rfl
/-- how much the joined texts take -/
def sumZ (l : List ByteArray) : Int := (l.map fun s => (s.size : Int)).sum
theorem sumZ_snoc (l : List ByteArray) (x : ByteArray) : sumZ (l ++ [x]) = sumZ l + (x.size : Int) := by simp [sumZ]
theorem sumZ_nonneg (l : List ByteArray) : 0 ≤ sumZ l := by
  induction l with
  | nil => simp [sumZ]
  | cons a l ih => simp only [sumZ, List.map_cons, List.sum_cons] at ih ⊢; omega
theorem joinL_len (c : UInt8) : ∀ l : List (List UInt8), l ≠ [] → (Lib.join l [c]).length + 1 = (l.map fun s => s.length + 1).sum
  | [], h => absurd rfl h
  | [a], _ => by rw [Lib.join_one]; simp
  | a :: b :: l, _ => by
    have ih := joinL_len c (b :: l) (by simp)
    have e : Lib.join (a :: b :: l) [c] = a ++ ([c] ++ Lib.join (b :: l) [c]) := by
      unfold Lib.join
      simp [List.intercalate, List.intersperse]
    rw [e, List.length_append, List.length_append, List.map_cons, List.sum_cons, ← ih, List.length_singleton]
    omega
theorem sums (l : List ByteArray) : ((((l.map (·.data.toList)).map fun s => s.length + 1).sum : Nat) : Int) = sumZ l + (l.length : Int) := by
  induction l with
  | nil => rfl
  | cons a l ih =>
    have := size_data a
    simp only [sumZ, List.map_cons, List.sum_cons, List.length_cons] at ih ⊢
    omega
theorem joinB_size (c : UInt8) (l : List ByteArray) (h : l ≠ []) : ((joinB c l).size : Int) = sumZ l + ((l.length : Int) - 1) := by
  have h1 := joinL_len c (l.map (·.data.toList)) (by simpa using h)
  have h2 := sums l
  have h3 : (joinB c l).size = (Lib.join (l.map (·.data.toList)) [c]).length := txt_size _
  omega
theorem sumZ_append (l m : List ByteArray) : sumZ (l ++ m) = sumZ l + sumZ m := by simp [sumZ]
theorem sumZ_take (l : List ByteArray) (i : Nat) : sumZ (l.take i) ≤ sumZ l := by
  have h := sumZ_append (l.take i) (l.drop i)
  rw [List.take_append_drop] at h
  have := sumZ_nonneg (l.drop i)
  omega
theorem sumZ_le (l : List ByteArray) (h : ∀ s ∈ l, s.size ≤ 1048576) : sumZ l ≤ 1048576 * (l.length : Int) := by
  induction l with
  | nil => simp [sumZ]
  | cons a l ih =>
    have h1 := ih fun s hs => h s (List.mem_cons_of_mem _ hs)
    have h2 := h a List.mem_cons_self
    simp only [sumZ, List.map_cons, List.sum_cons, List.length_cons] at h1 ⊢
    omega
theorem sumZ_nil : sumZ [] = 0 := rfl
attribute [local irreducible] sumZ
def joinAns (c : UInt8) (l : List ByteArray) : ByteArray × Bool := if l.any (hasB c) = true ∨ sumZ l + ((l.length : Int) - 1) > 4000 then (⟨#[]⟩, false) else (joinB c l, true)
theorem any_take (c : UInt8) (l : List ByteArray) (i : Nat) (hi : i < l.length) (h : hasB c l[i] = true) : l.any (hasB c) = true := List.any_eq_true.2 ⟨_, List.getElem_mem hi, h⟩
theorem take_snocB (l : List ByteArray) (i : Nat) (h : i < l.length) : l.take (i + 1) = l.take i ++ [l[i]] := List.take_succ_eq_append_getElem h
theorem sJoin_l0 (l : List ByteArray) (hl : l.length ≤ 1048576) (hs : ∀ s ∈ l, s.size ≤ 1048576) (hp : 0 < l.length) (c : UInt8) (d : Nat) : ∀ (k i : Nat), i ≤ l.length → l.length - i = d → d + 1048577 < k → (l.take i).any (hasB c) = false → (0 < i → sumZ (l.take i) + ((i : Int) - 1) ≤ 4000) →
    spec_JoinStrings.l0 k l ⟨#[c]⟩ (joinB c (l.take i)) (i : Int) = some (joinAns c l) := by
  induction d with
  | zero =>
    intro k i hi hd hk ha hz
    obtain ⟨k, rfl⟩ := pred_of_lt hk
    have hil : i = l.length := by omega
    simp only [spec_JoinStrings.l0]
    rw [if_neg (by omega)]
    rw [List.take_of_length_le (by omega)] at ha hz ⊢
    unfold joinAns
    rw [if_neg]
    rintro (h | h)
    · rw [ha] at h; cases h
    · have := hz (by omega); omega
  | succ d ih =>
    intro k i hi hd hk ha hz
    obtain ⟨k, rfl⟩ := pred_of_lt hk
    have hlt : i < l.length := by omega
    obtain ⟨x, hx, hget, hsn, hany⟩ : ∃ x : ByteArray, x.size ≤ 1048576 ∧ rdOf ByteArray.empty l (i : Int) = x ∧ l.take (i + 1) = l.take i ++ [x] ∧ (hasB c x = true → l.any (hasB c) = true) :=
      ⟨l[i], hs _ (List.getElem_mem hlt), rdS_get l i hlt, take_snocB l i hlt, any_take c l i hlt⟩
    have h1 : (⟨#[c]⟩ : ByteArray).size = 1 := rfl
    have h1i : ((⟨#[c]⟩ : ByteArray).size : Int) = 1 := rfl
    have hb : bt (⟨#[c]⟩ : ByteArray) 0 = (c.toNat : Int) := rfl
    have hst := l1Stands_eq x hx c k (by omega)
    have hnn := sumZ_nonneg (l.take i)
    have hsz1 : sumZ (l.take (i + 1)) = sumZ (l.take i) + (x.size : Int) := by rw [hsn, sumZ_snoc]
    have hle := sumZ_take l (i + 1)
    have c1 : (i : Int) < (l.length : Int) := by omega
    have c2 : (0 : Int) ≤ (i : Int) := by omega
    have c3 : (0 : Int) < 1 := by decide
    have next : hasB c x = false → sumZ (l.take i) + (x.size : Int) + (i : Int) ≤ 4000 → spec_JoinStrings.l0 k l ⟨#[c]⟩ (joinB c (l.take (i + 1))) ((i + 1 : Nat) : Int) = some (joinAns c l) := fun hc hm =>
      ih k (i + 1) hlt (by rw [Nat.sub_add_eq, hd]; rfl) (by clear ih; omega) (by rw [hsn, List.any_append, ha]; simp [hc]) (fun _ => by rw [hsz1]; omega)
    have fail : (sumZ (l.take i) + (x.size : Int) + (i : Int) > 4000 ∨ hasB c x = true) → some ((⟨#[]⟩ : ByteArray), false) = some (joinAns c l) := fun h => by
      unfold joinAns
      rw [if_pos]
      rcases h with h | h
      · exact Or.inr (by omega)
      · exact Or.inl (hany h)
    have e1 : wrap64 ((i : Int) + 1) = ((i + 1 : Nat) : Int) := by clear next fail ih; rw [wr (by omega) (by omega)]; omega
    simp only [spec_JoinStrings.l0, c1, c2, if_true, hget, h1i, c3, hb, hst, Option.bind_some, e1]
    clear e1
    by_cases hc : hasB c x = true
    · rw [if_pos hc]; exact fail (Or.inr hc)
    · rw [if_neg hc]
      have hc' := (Bool.not_eq_true _).mp hc
      by_cases h0 : (i : Int) > 0
      · have hne : l.take i ≠ [] := by
          intro e
          have hlen : (l.take i).length = min i l.length := List.length_take
          rw [e] at hlen
          simp only [List.length_nil] at hlen
          omega
        have hjs := joinB_size c (l.take i) hne
        have hlt2 : (l.take i).length = i := by rw [List.length_take]; omega
        rw [hlt2] at hjs
        have hz' := hz (by omega)
        have hj : (joinB c (l.take i) ++ ⟨#[c]⟩) ++ x = joinB c (l.take (i + 1)) := by rw [hsn, joinB_snoc c _ x hne]
        have hzz : (((joinB c (l.take i) ++ ⟨#[c]⟩) ++ x).size : Int) = sumZ (l.take i) + (x.size : Int) + (i : Int) := by
          rw [ByteArray.size_append, ByteArray.size_append, h1]; omega
        rw [if_pos h0, if_pos (by omega), if_pos (by rw [ByteArray.size_append]; omega), hzz, hj]
        by_cases hm : sumZ (l.take i) + (x.size : Int) + (i : Int) > 4000
        · rw [if_pos hm]; exact fail (Or.inl hm)
        · rw [if_neg hm]; exact next hc' (by omega)
      · have hi0 : i = 0 := by omega
        subst hi0
        have hj0 : joinB c (l.take 0) ++ x = joinB c (l.take (0 + 1)) := by
          rw [hsn, List.take_zero, List.nil_append, joinB_one]
          show txt [] ++ x = x
          rw [← txt_of x, txt_app]; rfl
        have hjz : (joinB c (l.take 0)).size = 0 := rfl
        have hzz : ((joinB c (l.take 0) ++ x).size : Int) = sumZ (l.take 0) + (x.size : Int) + ((0 : Nat) : Int) := by
          rw [ByteArray.size_append, hjz, List.take_zero]
          have := sumZ_nil
          omega
        rw [if_neg h0, if_pos (by omega), hzz, hj0]
        by_cases hm : sumZ (l.take 0) + (x.size : Int) + ((0 : Nat) : Int) > 4000
        · rw [if_pos hm]; exact fail (Or.inl hm)
        · rw [if_neg hm]; exact next hc' (by omega)
theorem join_full (c : UInt8) (l : List ByteArray) (hl : l.length ≤ 1048576) (h : l ≠ []) (hz : sumZ l + ((l.length : Int) - 1) ≤ 4000) : strings_Join.f l ⟨#[c]⟩ = some (joinB c l) := by
  have hs := joinB_size c l h
  have hsz : (joinB c l).size = (Lib.join (l.map (·.data.toList)) [c]).length := txt_size _
  unfold strings_Join.f
  rw [if_pos (by omega)]
  show (if (Lib.join (l.map (·.data.toList)) [c]).length ≤ 140737488355328 then some (joinB c l) else none) = _
  rw [if_pos (by omega)]
theorem iJoin_l0 (l : List ByteArray) (hl : l.length ≤ 1048576) (hs : ∀ s ∈ l, s.size ≤ 1048576) (hp : 0 < l.length) (c : UInt8) (d : Nat) : ∀ (k i : Nat), i ≤ l.length → l.length - i = d → d < k → (l.take i).any (hasB c) = false →
    impl_JoinStrings.l0 k l ⟨#[c]⟩ ((l.length : Int) - 1 + sumZ (l.take i)) l (l.length : Int) (i : Int) = some (joinAns c l) := by
  have hle := sumZ_le l hs
  have hne : l ≠ [] := fun e => by rw [e] at hp; exact absurd hp (by simp)
  induction d with
  | zero =>
    intro k i hi hd hk ha
    obtain ⟨k, rfl⟩ := pred_of_lt hk
    simp only [impl_JoinStrings.l0]
    rw [if_neg (by omega)]
    rw [List.take_of_length_le (by omega)] at ha ⊢
    unfold joinAns
    by_cases hm : (l.length : Int) - 1 + sumZ l > 4000
    · rw [if_pos hm, if_pos (Or.inr (by omega))]
    · rw [if_neg hm, if_neg (by rintro (h | h); · rw [ha] at h; cases h
                                · omega), join_full c l hl hne (by omega)]
      rfl
  | succ d ih =>
    intro k i hi hd hk ha
    obtain ⟨k, rfl⟩ := pred_of_lt hk
    have hlt : i < l.length := by omega
    obtain ⟨x, hx, hget, hsn, hany⟩ : ∃ x : ByteArray, x.size ≤ 1048576 ∧ rdOf ByteArray.empty l (i : Int) = x ∧ l.take (i + 1) = l.take i ++ [x] ∧ (hasB c x = true → l.any (hasB c) = true) :=
      ⟨l[i], hs _ (List.getElem_mem hlt), rdS_get l i hlt, take_snocB l i hlt, any_take c l i hlt⟩
    have hnn := sumZ_nonneg (l.take i)
    have hsz1 : sumZ (l.take (i + 1)) = sumZ (l.take i) + (x.size : Int) := by rw [hsn, sumZ_snoc]
    have hle2 := sumZ_take l (i + 1)
    have c1 : (i : Int) < (l.length : Int) := by omega
    have c2 : (0 : Int) ≤ (i : Int) := by omega
    have e1 : wrap64 ((i : Int) + 1) = ((i + 1 : Nat) : Int) := by rw [wr (by omega) (by omega)]; omega
    have e2 : wrap64 ((l.length : Int) - 1 + sumZ (l.take i) + (x.size : Int)) = (l.length : Int) - 1 + sumZ (l.take (i + 1)) := by clear e1; rw [wr (by omega) (by omega)]; omega
    simp only [impl_JoinStrings.l0, c1, c2, if_true, hget, contains_eq, Option.bind_some, e1, e2]
    clear e1 e2
    by_cases hc : hasB c x = true
    · rw [if_pos hc]; unfold joinAns; rw [if_pos (Or.inl (hany hc))]
    · rw [if_neg hc]
      exact ih k (i + 1) hlt (by rw [Nat.sub_add_eq, hd]; rfl) (by clear ih; omega) (by rw [hsn, List.any_append, ha]; simp [hc])
theorem one_byte (a : ByteArray) (h : (a.size : Int) = 1) : ∃ c : UInt8, a = ⟨#[c]⟩ := by
  obtain ⟨⟨l⟩⟩ := a
  match l, h with
  | [c], _ => exact ⟨c, rfl⟩
theorem joinStrings_ans (l : List ByteArray) (hl : l.length ≤ 1048576) (hs : ∀ s ∈ l, s.size ≤ 1048576) (a : ByteArray) : ∃ R, ∀ k, 4194400 ≤ k → spec_JoinStrings.f k l a = some R ∧ impl_JoinStrings.f k l a = some R := by
  by_cases h1 : (a.size : Int) = 1
  · obtain ⟨c, rfl⟩ := one_byte a h1
    by_cases h0 : (l.length : Int) = 0
    · refine ⟨(⟨#[]⟩, false), fun k hk => ?_⟩
      obtain ⟨k, rfl⟩ : ∃ m, k = m + 1 := ⟨k - 1, by omega⟩
      unfold spec_JoinStrings.f impl_JoinStrings.f
      rw [if_pos h1, if_pos h0]
      have e : ((l.length : Int) == 0) = true := beq_iff_eq.2 h0
      simp only [e, spec_JoinStrings.j0, impl_JoinStrings.j0, if_true]
      exact ⟨trivial, trivial⟩
    · refine ⟨joinAns c l, fun k hk => ?_⟩
      obtain ⟨k, rfl⟩ : ∃ m, k = m + 1 := ⟨k - 1, by omega⟩
      have hp : 0 < l.length := by omega
      unfold spec_JoinStrings.f impl_JoinStrings.f
      rw [if_pos h1, if_neg h0]
      have e : ((l.length : Int) == 0) = false := beq_eq_false_iff_ne.2 h0
      have e2 : (((⟨#[c]⟩ : ByteArray).size : Int) != 1) = false := by rw [h1]; rfl
      have s := sJoin_l0 l hl hs hp c l.length k 0 (by omega) (by omega) (by omega) (by simp) (fun h => absurd h (by omega))
      have i := iJoin_l0 l hl hs hp c l.length k 0 (by omega) (by omega) (by omega) (by simp)
      have hz : sumZ (l.take 0) = 0 := by rw [List.take_zero]; exact sumZ_nil
      rw [hz, Int.add_zero] at i
      simp only [e, e2, spec_JoinStrings.j0, impl_JoinStrings.j0, Bool.false_eq_true, if_false]
      rw [wr (by omega) (by omega)]
      exact ⟨s, i⟩
  · refine ⟨(⟨#[]⟩, false), fun k hk => ?_⟩
    obtain ⟨k, rfl⟩ : ∃ m, k = m + 1 := ⟨k - 1, by omega⟩
    unfold spec_JoinStrings.f impl_JoinStrings.f
    rw [if_neg h1]
    by_cases h0 : (l.length : Int) = 0
    · rw [if_pos h0]
      simp only [spec_JoinStrings.j0, impl_JoinStrings.j0, if_true]
      exact ⟨trivial, trivial⟩
    · rw [if_neg h0]
      have e2 : ((a.size : Int) != 1) = true := by simpa using h1
      simp only [e2, spec_JoinStrings.j0, impl_JoinStrings.j0, if_true]
      exact ⟨trivial, trivial⟩
theorem FnExactJoinStrings : laws_FnExactJoinStrings.Pure := by
  intro l0 a1 hl hs _
  by_cases hsz : (a1.size : Int) > 1048576
  · exact ⟨0, by unfold laws_FnExactJoinStrings.f; rw [if_pos hsz]⟩
  obtain ⟨t, ht, hb⟩ := szStringS_eq l0 hl hs
  by_cases h0 : t < 0
  · refine ⟨l0.length + 1, ?_⟩
    unfold laws_FnExactJoinStrings.f
    rw [if_neg hsz, ht _ (by omega)]
    simp only [Option.bind_some, h0, if_true]
  · obtain ⟨h1, h2⟩ := hb (by omega)
    obtain ⟨R, hR⟩ := joinStrings_ans l0 h1 h2 a1
    obtain ⟨M, hM⟩ : ∃ M : Nat, 4194400 ≤ M := ⟨4194400, Nat.le_refl _⟩
    refine ⟨M + 1, ?_⟩
    have r := hR (M + 1) (by omega)
    unfold laws_FnExactJoinStrings.f
    rw [if_neg hsz, ht _ (by omega)]
    simp only [Option.bind_some, h0, if_false, toStringS_eq l0 h1 (M + 1) (by omega), r.1, r.2, if_true, bne_self_eq_false]
    simp only [laws_FnExactJoinStrings.j0, Bool.false_eq_true, if_false, toStringS_eq l0 h1 M (by omega), eqStringS_self l0 h1 M (by omega), Option.bind_some, if_true]

end Go.Proofs.Ytebkpfnekhiedaa.Pure
