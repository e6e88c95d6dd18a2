/- TimeOfSignal of the program and of the reference answer alike at every text. -/
import Derived.Test.YtebdmdegmlblgaaDoorHFnExactTimeOfSignalx4
namespace Go.Proofs.YtebdmdegmlblgaaDoor.Pure
open Go.RowKit Go.Proofs.YtebdmdegmlblgaaDoor.HFnExactTimeOfSignal Go.Proofs.YtebdmdegmlblgaaDoorW.PrintWords Go.Proofs.YtebdmdegmlblgaaDoorW.PrintLast
set_option linter.unusedVariables false
set_option linter.unusedSimpArgs false
set_option linter.unnecessarySimpa false

theorem wr {i : Int} (h0 : -9223372036854775808 ≤ i) (h1 : i ≤ 9223372036854775807) : wrap64 i = i := by unfold wrap64; omega
theorem rd_nat (xs : List Int) (i : Nat) : rd xs (i : Int) = xs.getD i 0 := by simp [rd]
theorem rd_get (xs : List Int) (i : Nat) (h : i < xs.length) : rd xs (i : Int) = xs[i] := by simp [rd, h]
theorem pred_of_lt {d k : Nat} (h : d < k) : ∃ m, k = m + 1 := ⟨k - 1, by omega⟩
/-! bytes of a text -/
theorem size_data (s : ByteArray) : s.data.toList.length = s.size := Array.length_toList
theorem bt_nat (s : ByteArray) (i : Nat) (h : i < s.size) : bt s (i : Int) = ((s.data.toList[i]'(by rw [size_data]; exact h)).toNat : Int) := by
  have := bt_at s (i : Int) (by simpa using h)
  rw [← this]
  rfl
theorem byte_num (b c : UInt8) (n : Nat) (hc : c.toNat = n) : ((b.toNat : Int) = (n : Int)) ↔ b = c := by
  constructor
  · intro h
    exact UInt8.toNat_inj.1 (by omega)
  · rintro rfl; omega
/-! what is left when bytes of a set are taken off both ends -/
theorem dropWhile_nil {p : UInt8 → Bool} (l : List UInt8) : l.dropWhile p = [] ↔ l.all p = true := by
  induction l with
  | nil => simp
  | cons a l ih =>
    rw [List.dropWhile_cons]
    by_cases h : p a = true
    · rw [if_pos h, ih]; simp [h]
    · rw [if_neg h]; simp [h]
theorem trimS_nil (l cs : List UInt8) : Lib.trimS l cs = [] ↔ l.all (cs.contains ·) = true := by
  unfold Lib.trimS Lib.trimLeftS Lib.trimRightS
  rw [dropWhile_nil]
  constructor
  · intro h
    by_cases hr : (l.reverse.dropWhile (cs.contains ·)) = []
    · rw [dropWhile_nil, List.all_reverse] at hr; exact hr
    · exfalso
      rw [List.all_reverse] at h
      cases hd : l.reverse.dropWhile (cs.contains ·) with
      | nil => exact hr hd
      | cons a t =>
        have ha : cs.contains a = false := by
          have := List.head?_dropWhile_not (cs.contains ·) l.reverse
          rw [hd] at this
          simpa using this
        rw [hd] at h
        simp at h
        rw [List.contains_eq_mem] at ha
        simp [h.1] at ha
  · intro h
    have : (l.reverse.dropWhile (cs.contains ·)) = [] := by
      rw [dropWhile_nil, List.all_reverse]; exact h
    rw [this]; rfl
theorem toList_nil (l : List UInt8) : ((⟨l.toArray⟩ : ByteArray).toList == ([] : List UInt8)) = l.isEmpty := by
  have : (⟨l.toArray⟩ : ByteArray).toList = l := by
    rw [ByteArray.toList_eq]
  rw [this]
  cases l <;> rfl
theorem l1In_eq (a b c : Int) : spec_l1In.f a b c = some (decide (b ≤ a) && decide (a ≤ c)) := by
  unfold spec_l1In.f
  by_cases h : a ≥ b
  · rw [if_pos h]; simp [show b ≤ a from h]
  · rw [if_neg h]; simp [show ¬ b ≤ a from h]
theorem in_eq (a b c : Int) : impl_in.f a b c = some (decide (b ≤ a) && decide (a ≤ c)) := by
  unfold impl_in.f
  by_cases h : a ≥ b
  · rw [if_pos h]; simp [show b ≤ a from h]
  · rw [if_neg h]; simp [show ¬ b ≤ a from h]
/-! marks, as both sides ask for them -/
def dotDash (b : UInt8) : Bool := b == 46 || b == 45
def isMk (s : ByteArray) (lo hi : Int) : Bool := (decide (lo ≤ (s.size : Int)) && decide ((s.size : Int) ≤ hi)) && s.data.toList.all dotDash
theorem bt_is (s : ByteArray) (i : Nat) (h : i < s.size) (c : UInt8) (n : Int) (hc : (c.toNat : Int) = n) : (bt s (i : Int) = n) ↔ (s.data.toList[i]'(by rw [size_data]; exact h)) = c := by
  rw [bt_nat s i h, ← hc]
  constructor
  · intro e; exact UInt8.toNat_inj.1 (by omega)
  · intro e; rw [e]
theorem l2Marks_l0 (s : ByteArray) (hs : s.size ≤ 1048576) (lo hi : Int) (d : Nat) : ∀ (k i : Nat), i ≤ s.size → s.size - i = d → 2 * d + 1 < k → (s.data.toList.take i).all dotDash = true → spec_l2Marks.l0 k s lo hi (i : Int) = some (isMk s lo hi) := by
  have hsz := size_data s
  induction d with
  | zero =>
    intro k i hi' hd hk ht
    obtain ⟨k, rfl⟩ := pred_of_lt hk
    simp only [spec_l2Marks.l0]; rw [if_neg (by omega), l1In_eq]
    rw [List.take_of_length_le (by omega)] at ht
    simp only [Option.bind_some, isMk, ht, Bool.and_true]
  | succ d ih =>
    intro k i hi' hd hk ht
    obtain ⟨k, rfl⟩ := pred_of_lt hk
    have c1 : (i : Int) < (s.size : Int) := by omega
    have c2 : (0 : Int) ≤ (i : Int) := by omega
    have e : wrap64 ((i : Int) + 1) = ((i + 1 : Nat) : Int) := by rw [wr (by omega) (by omega)]; omega
    simp only [spec_l2Marks.l0, c1, if_true]
    by_cases h200 : (i : Int) ≤ hi
    · rw [if_pos h200]
      simp only [c2, if_true, e]
      have hlt : i < s.data.toList.length := by omega
      have next : dotDash (s.data.toList[i]) = true → spec_l2Marks.l0 k s lo hi ((i + 1 : Nat) : Int) = some (isMk s lo hi) := fun hb => ih k (i + 1) (by omega) (by omega) (by omega) (by
        rw [List.take_succ_eq_append_getElem hlt, List.all_append, ht]; simp only [List.all_cons, List.all_nil, hb, Bool.and_true])
      by_cases h0 : bt s (i : Int) = 46
      · rw [if_pos h0]
        exact next (by rw [bt_is s i (by omega) 46 46 (by decide)] at h0; rw [h0]; decide)
      · rw [if_neg h0]
        by_cases h1 : bt s (i : Int) = 45
        · rw [if_pos h1]
          exact next (by rw [bt_is s i (by omega) 45 45 (by decide)] at h1; rw [h1]; decide)
        · rw [if_neg h1]
          rw [bt_is s i (by omega) 46 46 (by decide)] at h0
          rw [bt_is s i (by omega) 45 45 (by decide)] at h1
          have hm : s.data.toList[i] ∈ s.data.toList := List.getElem_mem _
          have hf : s.data.toList.all dotDash = false := by
            rw [List.all_eq_false]; exact ⟨_, hm, by simp only [dotDash, Bool.or_eq_true, beq_iff_eq, h0, h1, or_self, not_false_eq_true]⟩
          simp only [isMk, hf, Bool.and_false]
    · rw [if_neg h200]
      have hn : decide ((s.size : Int) ≤ hi) = false := by simp; omega
      rw [l1In_eq]
      simp only [Option.bind_some, isMk, hn, Bool.and_false, Bool.false_and]
theorem l2Marks_eq (s : ByteArray) (hs : s.size ≤ 1048576) (lo hi : Int) (k : Nat) (hk : 2 * s.size + 1 < k) : spec_l2Marks.f k s lo hi = some (isMk s lo hi) := by
  unfold spec_l2Marks.f
  exact l2Marks_l0 s hs lo hi s.size k 0 (by omega) (by omega) hk (by simp)
theorem areMarks_eq (s : ByteArray) (hs : s.size ≤ 1048576) (lo hi : Int) : impl_areMarks.f s lo hi = some (isMk s lo hi) := by
  unfold impl_areMarks.f
  rw [in_eq]
  simp only [Option.bind_some]
  by_cases h : (decide (lo ≤ (s.size : Int)) && decide ((s.size : Int) ≤ hi)) = true
  · rw [if_pos h]
    unfold strings_Trim.f
    rw [if_pos (by omega), if_pos (by decide), if_pos (by decide)]
    simp only [Option.bind_some]
    rw [toList_nil]
    have e : (Lib.trimS s.data.toList [46, 45]).isEmpty = s.data.toList.all dotDash := by
      rw [Bool.eq_iff_iff, List.isEmpty_iff, trimS_nil]
      have : (fun x => [46, 45].contains x) = dotDash := by
        funext x
        simp [dotDash, List.contains_eq_mem]
        rfl
      rw [this]
    show some (Lib.trimS s.data.toList [46, 45]).isEmpty = _
    rw [e]
    simp only [isMk, h, Bool.true_and]
  · rw [if_neg h]
    simp only [isMk, (Bool.not_eq_true _).mp h, Bool.false_and]
theorem in_eq' (a b c : Int) : impl_in.f a b c = some (decide (b ≤ a) && decide (a ≤ c)) := in_eq a b c
/-! lists of texts: their sizes, copies, comparisons -/
theorem rdS_get (xs : List ByteArray) (i : Nat) (h : i < xs.length) : rdOf ByteArray.empty xs (i : Int) = xs[i] := by simp [rdOf, h]
theorem toList_inj (a b : ByteArray) : a.toList = b.toList ↔ a = b := by
  rw [ByteArray.toList_eq, ByteArray.toList_eq]
  constructor
  · intro h; exact ByteArray.ext (Array.toList_inj.1 h)
  · rintro rfl; rfl
/-! a text's pieces between the bytes that part them -/
theorem ext_list (s : ByteArray) (i : Nat) : (s.extract i s.size).data.toList = s.data.toList.drop i := by
  rw [ByteArray.data_extract, Array.toList_extract, List.extract_eq_take_drop, List.take_of_length_le]
  have := size_data s
  rw [List.length_drop]; omega
theorem indexByte_is (l : List UInt8) (c : UInt8) (m : Nat) (h1 : l[m]? = some c) (h2 : ∀ k, k < m → l[k]? ≠ some c) : Lib.indexByte l c = (m : Int) := by
  have hge := Lib.indexByte_ge l c
  by_cases hn : Lib.indexByte l c = -1
  · exact absurd h1 (Lib.indexByte_none hn m)
  · obtain ⟨o, ho⟩ : ∃ o : Nat, Lib.indexByte l c = (o : Int) := ⟨(Lib.indexByte l c).toNat, by omega⟩
    obtain ⟨a1, a2⟩ := Lib.indexByte_some ho
    have : o = m := by
      rcases Nat.lt_trichotomy o m with h | h | h
      · exact absurd a1 (h2 o h)
      · exact h
      · exact absurd h1 (a2 m h)
    rw [ho, this]
theorem indexByte_not (l : List UInt8) (c : UInt8) (h2 : ∀ k : Nat, l[k]? ≠ some c) : Lib.indexByte l c = -1 := by
  have hge := Lib.indexByte_ge l c
  by_cases hn : Lib.indexByte l c = -1
  · exact hn
  · obtain ⟨o, ho⟩ : ∃ o : Nat, Lib.indexByte l c = (o : Int) := ⟨(Lib.indexByte l c).toNat, by omega⟩
    exact absurd (Lib.indexByte_some ho).1 (h2 o)
/-- the pieces -/
def pieces (s : ByteArray) (c : UInt8) : List ByteArray := Lib.splitB ⟨#[c]⟩ 0 (Lib.countB s ⟨#[c]⟩) s
theorem pieces_end (s : ByteArray) (c : UInt8) (i : Nat) (h : ∀ k, i ≤ k → s.data.toList[k]? ≠ some c) : pieces (s.extract i s.size) c = [s.extract i s.size] := by
  unfold pieces
  refine Lib.splitB_miss _ _ _ _ ?_
  rw [strings_Split.idx]
  refine indexByte_not _ _ fun k => ?_
  rw [ext_list, List.getElem?_drop]
  exact h _ (by omega)
theorem pieces_hit (s : ByteArray) (c : UInt8) (i j : Nat) (hij : i ≤ j) (hj : j < s.size) (h1 : s.data.toList[j]? = some c) (h2 : ∀ k, i ≤ k → k < j → s.data.toList[k]? ≠ some c) :
    pieces (s.extract i s.size) c = s.extract i j :: pieces (s.extract (j + 1) s.size) c := by
  have hi : Lib.indexB (s.extract i s.size) ⟨#[c]⟩ = ((j - i : Nat) : Int) := by
    rw [strings_Split.idx]
    refine indexByte_is _ _ _ ?_ fun k hk => ?_
    · rw [ext_list, List.getElem?_drop, show i + (j - i) = j by omega]; exact h1
    · rw [ext_list, List.getElem?_drop]; exact h2 _ (by omega) (by omega)
  have hz : (s.extract i s.size).size = s.size - i := by rw [ByteArray.size_extract, Nat.min_self]
  have e1 : (s.extract i s.size).extract (j - i + (⟨#[c]⟩ : ByteArray).size) (s.extract i s.size).size = s.extract (j + 1) s.size := by
    rw [ByteArray.extract_extract, hz]
    show s.extract (i + (j - i + 1)) (min (i + (s.size - i)) s.size) = _
    rw [show i + (j - i + 1) = j + 1 by omega, show min (i + (s.size - i)) s.size = s.size by omega]
  have e2 : (s.extract i s.size).extract 0 (j - i + 0) = s.extract i j := by
    rw [ByteArray.extract_extract, show i + 0 = i by omega, show min (i + (j - i + 0)) s.size = j by omega]
  unfold pieces
  rw [Lib.countB_hit (s.extract i s.size) (⟨#[c]⟩ : ByteArray) (j - i) (Nat.le_refl 1) hi, e1, Nat.add_comm, Lib.splitB_hit _ _ _ _ _ hi, e1, e2]
theorem getL (s : ByteArray) (j : Nat) (h : j < s.size) : s.data.toList[j]? = some (s.data.toList[j]'(by rw [size_data]; exact h)) := List.getElem?_eq_getElem _
theorem l1Split_l0 (s : ByteArray) (hs : s.size ≤ 1048576) (c : UInt8) (d : Nat) : ∀ (k i j : Nat) (x : List ByteArray), i ≤ j → j ≤ s.size → s.size - j = d → d < k → x.length ≤ j → (∀ m, i ≤ m → m < j → s.data.toList[m]? ≠ some c) →
    spec_l1Split.l0 k s (c.toNat : Int) x (i : Int) (j : Int) = some (x ++ pieces (s.extract i s.size) c) := by
  have hsz := size_data s
  induction d with
  | zero =>
    intro k i j x hij hj hd hk hx hn
    obtain ⟨k, rfl⟩ := pred_of_lt hk
    simp only [spec_l1Split.l0]
    rw [if_neg (by omega), if_pos (by omega), if_pos (by omega), if_pos (by omega), pieces_end s c i (fun m hm => by
      by_cases h : m < j
      · exact hn m hm h
      · rw [List.getElem?_eq_none (by omega)]; exact fun h => by cases h), Int.toNat_natCast]
  | succ d ih =>
    intro k i j x hij hj hd hk hx hn
    obtain ⟨k, rfl⟩ := pred_of_lt hk
    have c1 : (j : Int) < (s.size : Int) := by omega
    have c2 : (0 : Int) ≤ (j : Int) := by omega
    have e1 : wrap64 ((j : Int) + 1) = ((j + 1 : Nat) : Int) := by rw [wr (by omega) (by omega)]; omega
    simp only [spec_l1Split.l0, c1, c2, if_true, e1, Int.toNat_natCast]
    by_cases hc : bt s (j : Int) = (c.toNat : Int)
    · rw [if_pos hc, if_pos (by omega), if_pos (by omega), if_pos (by omega), if_pos (by omega)]
      rw [bt_is s j (by omega) c _ rfl] at hc
      rw [ih k (j + 1) (j + 1) _ (by omega) (by omega) (by omega) (by omega) (by simp; omega) (fun m h1 h2 => by omega),
        pieces_hit s c i j hij (by omega) (by rw [getL s j (by omega), hc]) hn, List.append_assoc]
      rfl
    · rw [if_neg hc]
      rw [bt_is s j (by omega) c _ rfl] at hc
      exact ih k i (j + 1) x (by omega) (by omega) (by omega) (by omega) (by omega) (fun m h1 h2 => by
        by_cases h : m = j
        · subst h; rw [getL s m (by omega)]; exact fun h => hc (Option.some.inj h)
        · exact hn m h1 (by omega))
theorem whole (s : ByteArray) : s.extract 0 s.size = s := ByteArray.extract_zero_size
theorem l1Split_eq (s : ByteArray) (hs : s.size ≤ 1048576) (c : UInt8) (k : Nat) (hk : s.size < k) : spec_l1Split.f k s (c.toNat : Int) = some (pieces s c) := by
  unfold spec_l1Split.f
  have := l1Split_l0 s hs c s.size k 0 0 [] (by omega) (by omega) (by omega) hk (by simp) (fun m h1 h2 => by omega)
  rw [whole] at this
  simpa using this
theorem iSplit_eq (s : ByteArray) (hs : s.size ≤ 1048576) (c : UInt8) : strings_Split.f s ⟨#[c]⟩ = some (pieces s c) := by
  show (if s.size < 4294967281 then some (Lib.splitB ⟨#[c]⟩ 0 (Lib.countB s ⟨#[c]⟩) s) else none) = _
  rw [if_pos (by omega)]; rfl
theorem pieces_len (s : ByteArray) (c : UInt8) : (pieces s c).length ≤ s.size + 1 := by
  unfold pieces
  have := Lib.countB_le (⟨#[c]⟩ : ByteArray) (Nat.le_refl 1) s.size s (Nat.le_refl _)
  have := Lib.splitB_all (⟨#[c]⟩ : ByteArray) (Nat.le_refl 1) 0 _ s rfl
  omega
theorem one_byte (a : ByteArray) (h : (a.size : Int) = 1) : ∃ c : UInt8, a = ⟨#[c]⟩ := by
  obtain ⟨⟨l⟩⟩ := a
  match l, h with
  | [c], _ => exact ⟨c, rfl⟩
/-! a signal, as both sides ask for it -/
theorem pieces_step (s : ByteArray) (c : UInt8) : pieces s c = [s] ∨ ∃ o : Nat, o < s.size ∧ pieces s c = s.extract 0 o :: pieces (s.extract (o + 1) s.size) c := by
  have hsz := size_data s
  have hge := Lib.indexByte_ge s.data.toList c
  by_cases hn : Lib.indexByte s.data.toList c = -1
  · refine Or.inl (Lib.splitB_miss _ _ _ _ ?_)
    rw [strings_Split.idx]; exact hn
  · obtain ⟨o, ho⟩ : ∃ o : Nat, Lib.indexByte s.data.toList c = (o : Int) := ⟨(Lib.indexByte s.data.toList c).toNat, by omega⟩
    have h1 := (Lib.indexByte_some ho).1
    have hlt : o < s.size := by rw [← hsz]; exact (List.getElem?_eq_some_iff.1 h1).1
    have hi : Lib.indexB s ⟨#[c]⟩ = (o : Int) := by rw [strings_Split.idx]; exact ho
    refine Or.inr ⟨o, hlt, ?_⟩
    unfold pieces
    rw [Lib.countB_hit s (⟨#[c]⟩ : ByteArray) o (Nat.le_refl 1) hi, Nat.add_comm, Lib.splitB_hit _ _ _ _ _ hi]
    rfl
theorem pieces_sum (c : UInt8) : ∀ (n : Nat) (s : ByteArray), s.size ≤ n → ((pieces s c).map fun p => p.size + 1).sum = s.size + 1 := by
  intro n
  induction n with
  | zero =>
    intro s hs
    rcases pieces_step s c with h | ⟨o, ho, h⟩
    · rw [h]; simp
    · omega
  | succ n ih =>
    intro s hs
    rcases pieces_step s c with h | ⟨o, ho, h⟩
    · rw [h]; simp
    · rw [h, List.map_cons, List.sum_cons, ih (s.extract (o + 1) s.size) (by rw [ByteArray.size_extract]; omega), ByteArray.size_extract, ByteArray.size_extract]
      omega
theorem mem_le_sum (f : ByteArray → Nat) : ∀ (l : List ByteArray) (p : ByteArray), p ∈ l → f p ≤ (l.map f).sum
  | [], _, h => by cases h
  | a :: l, p, h => by
    rw [List.map_cons, List.sum_cons]
    rcases List.mem_cons.1 h with h | h
    · rw [h]; omega
    · have := mem_le_sum f l p h; omega
theorem piece_size (s : ByteArray) (c : UInt8) (p : ByteArray) (h : p ∈ pieces s c) : p.size ≤ s.size := by
  have h1 := mem_le_sum (fun p => p.size + 1) _ p h
  rw [pieces_sum c s.size s (Nat.le_refl _)] at h1
  omega
def wordsL (s : ByteArray) : List (List ByteArray) := (pieces s 47).map fun w => pieces w 32
theorem l2Words_l0 (P : List ByteArray) (hP : P.length ≤ 1048577) (hs : ∀ p ∈ P, p.size ≤ 1048576) (d : Nat) : ∀ (k i : Nat), i ≤ P.length → P.length - i = d → d + 1048577 < k →
    spec_l2Words.l0 k ((P.take i).map fun w => pieces w 32) P (i : Int) = some (P.map fun w => pieces w 32) := by
  induction d with
  | zero =>
    intro k i hi hd hk
    obtain ⟨k, rfl⟩ := pred_of_lt hk
    simp only [spec_l2Words.l0]
    rw [if_neg (by omega), List.take_of_length_le (by omega)]
  | succ d ih =>
    intro k i hi hd hk
    obtain ⟨k, rfl⟩ := pred_of_lt hk
    have hlt : i < P.length := by omega
    obtain ⟨p, hp, hget, hsn⟩ : ∃ p : ByteArray, p.size ≤ 1048576 ∧ rdOf ByteArray.empty P (i : Int) = p ∧ (P.take (i + 1)).map (fun w => pieces w 32) = (P.take i).map (fun w => pieces w 32) ++ [pieces p 32] :=
      ⟨P[i], hs _ (List.getElem_mem hlt), rdS_get P i hlt, by rw [List.take_succ_eq_append_getElem hlt, List.map_append]; rfl⟩
    have n := ih k (i + 1) hlt (by rw [Nat.sub_add_eq, hd]; rfl) (by omega)
    have hsp := l1Split_eq p hp 32 k (by omega)
    have h32 : (((32 : UInt8).toNat : Nat) : Int) = 32 := rfl
    rw [h32] at hsp
    have hln : ((P.take i).map fun w => pieces w 32).length < 5864062014805 := by rw [List.length_map, List.length_take]; omega
    have c1 : (i : Int) < (P.length : Int) := by omega
    have c2 : (0 : Int) ≤ (i : Int) := by omega
    have e1 : wrap64 ((i : Int) + 1) = ((i + 1 : Nat) : Int) := by rw [wr (by omega) (by omega)]; omega
    simp only [spec_l2Words.l0, c1, c2, if_true, hget, hsp, Option.bind_some, hln, e1]
    rw [← hsn]; exact n
theorem l2Words_eq (s : ByteArray) (hs : s.size ≤ 1048576) (k : Nat) (hk : 2097200 ≤ k) : spec_l2Words.f k s = some (wordsL s) := by
  unfold spec_l2Words.f
  have h47 : (((47 : UInt8).toNat : Nat) : Int) = 47 := rfl
  have hsp := l1Split_eq s hs 47 k (by omega)
  rw [h47] at hsp
  rw [hsp]
  simp only [Option.bind_some]
  have hl := pieces_len s 47
  exact l2Words_l0 (pieces s 47) (by omega) (fun p hp => by have := piece_size s 47 p hp; omega) (pieces s 47).length k 0 (by omega) (by omega) (by omega)
theorem lettersOf_l0 (P : List ByteArray) (hP : P.length ≤ 1048577) (hs : ∀ p ∈ P, p.size ≤ 1048576) (d : Nat) : ∀ (k i : Nat), i ≤ P.length → P.length - i = d → d < k →
    impl_lettersOf.l0 k ((P.take i).map fun w => pieces w 32) P (P.length : Int) (i : Int) = some (P.map fun w => pieces w 32) := by
  induction d with
  | zero =>
    intro k i hi hd hk
    obtain ⟨k, rfl⟩ := pred_of_lt hk
    simp only [impl_lettersOf.l0]
    rw [if_neg (by omega), List.take_of_length_le (by omega)]
  | succ d ih =>
    intro k i hi hd hk
    obtain ⟨k, rfl⟩ := pred_of_lt hk
    have hlt : i < P.length := by omega
    obtain ⟨p, hp, hget, hsn⟩ : ∃ p : ByteArray, p.size ≤ 1048576 ∧ rdOf ByteArray.empty P (i : Int) = p ∧ (P.take (i + 1)).map (fun w => pieces w 32) = (P.take i).map (fun w => pieces w 32) ++ [pieces p 32] :=
      ⟨P[i], hs _ (List.getElem_mem hlt), rdS_get P i hlt, by rw [List.take_succ_eq_append_getElem hlt, List.map_append]; rfl⟩
    have n := ih k (i + 1) hlt (by rw [Nat.sub_add_eq, hd]; rfl) (by omega)
    have hsp := iSplit_eq p hp 32
    have hln : ((P.take i).map fun w => pieces w 32).length < 5864062014805 := by rw [List.length_map, List.length_take]; omega
    have c1 : (i : Int) < (P.length : Int) := by omega
    have c2 : (0 : Int) ≤ (i : Int) := by omega
    have e1 : wrap64 ((i : Int) + 1) = ((i + 1 : Nat) : Int) := by rw [wr (by omega) (by omega)]; omega
    simp only [impl_lettersOf.l0, c1, c2, if_true, hget, hsp, Option.bind_some, hln, e1]
    rw [← hsn]; exact n
theorem isNil (s : ByteArray) : (s.toList = ([] : List UInt8)) ↔ s.size = 0 := by
  rw [ByteArray.toList_eq, ← size_data s]
  exact List.length_eq_zero_iff.symm
def wordsI (s : ByteArray) : List (List ByteArray) := if s.size = 0 then [] else wordsL s
theorem lettersOf_eq (s : ByteArray) (hs : s.size ≤ 1048576) (k : Nat) (hk : 1048580 ≤ k) : impl_lettersOf.f k s = some (wordsI s) := by
  unfold impl_lettersOf.f wordsI
  simp only [Option.bind_some, isNil]
  by_cases h : s.size = 0
  · rw [if_pos h, if_pos h]
  · rw [if_neg h, if_neg h, iSplit_eq s hs 47]
    simp only [Option.bind_some]
    have hl := pieces_len s 47
    exact lettersOf_l0 (pieces s 47) (by omega) (fun p hp => by have := piece_size s 47 p hp; omega) (pieces s 47).length k 0 (by omega) (by omega) (by omega)
/-- every letter is marks; and how many letters and breaks there are -/
def okL (w : List ByteArray) : Bool := w.all fun s => isMk s 1 5
def okW (W : List (List ByteArray)) : Bool := W.all okL
def cntW (W : List (List ByteArray)) : Nat := (W.map fun w => w.length).sum
theorem cntW_cons (w : List ByteArray) (W : List (List ByteArray)) : cntW (w :: W) = w.length + cntW W := by simp [cntW]
theorem rdL_get (W : List (List ByteArray)) (i : Nat) (h : i < W.length) : rd_L1 W (i : Int) = W[i] := by simp [rd_L1, h]
theorem sSig_l1 (W : List (List ByteArray)) (i : Nat) (hi : i < W.length) (hWl : W.length ≤ 1048577) (w : List ByteArray) (hw : rd_L1 W (i : Int) = w) (hwl : w.length ≤ 1048577) (hws : ∀ s ∈ w, s.size ≤ 1048576) (x4 : Int) (h0 : 0 ≤ x4) (h4 : x4 ≤ 1099511627776) (q : Nat) (hq : 2097160 ≤ q) (d : Nat) : ∀ (m j : Nat), m = q + d + 1 → j ≤ w.length → w.length - j = d →
    spec_l2Signal.l1 m W x4 (i : Int) (j : Int) = if okL (w.drop j) = true then spec_l2Signal.l0 q W (x4 + (w.length : Int) + 1) ((i + 1 : Nat) : Int) else some false := by
  have ci1 : (i : Int) < (W.length : Int) := by omega
  have ci0 : (0 : Int) ≤ (i : Int) := by omega
  have ex : wrap64 (wrap64 (x4 + (w.length : Int)) + 1) = x4 + (w.length : Int) + 1 := by rw [wr (i := x4 + (w.length : Int)) (by omega) (by omega), wr (by omega) (by omega)]
  have ei : wrap64 ((i : Int) + 1) = ((i + 1 : Nat) : Int) := by clear ex; rw [wr (by omega) (by omega)]; omega
  induction d with
  | zero =>
    intro m j hm hj hd
    subst hm
    have hjl : j = w.length := by clear ei ex; omega
    have cj : ¬ (j : Int) < (w.length : Int) := by clear ei ex; omega
    simp only [spec_l2Signal.l1, Nat.add_zero, ci0, ci1, if_true, hw, cj, if_false, ei, ex]
    rw [hjl, List.drop_length, if_pos (show okL [] = true from rfl)]
  | succ d ih =>
    intro m j hm hj hd
    obtain ⟨m, rfl⟩ : ∃ m', m = m' + 1 := ⟨q + d + 1, by clear ei ex ih; omega⟩
    have hmq : 2097160 ≤ m := by clear ei ex ih; omega
    have hlt : j < w.length := by clear ei ex ih; omega
    obtain ⟨s, hs, hget, hdrop⟩ : ∃ s : ByteArray, s.size ≤ 1048576 ∧ rdOf ByteArray.empty w (j : Int) = s ∧ okL (w.drop j) = (isMk s 1 5 && okL (w.drop (j + 1))) := ⟨w[j], hws _ (List.getElem_mem hlt), rdS_get w j hlt, by rw [List.drop_eq_getElem_cons hlt]; rfl⟩
    have n := ih m (j + 1) (Nat.succ.inj hm) hlt (by rw [Nat.sub_add_eq, hd]; rfl)
    have c1 : (j : Int) < (w.length : Int) := by clear ei ex ih n; omega
    have c2 : (0 : Int) ≤ (j : Int) := by clear ei ex ih n; omega
    have hmk := l2Marks_eq s hs 1 5 m (by clear ei ex ih n; omega)
    have e1 : wrap64 ((j : Int) + 1) = ((j + 1 : Nat) : Int) := by clear ei ex ih n; rw [wr (by omega) (by omega)]; omega
    simp only [spec_l2Signal.l1, ci0, ci1, c1, c2, if_true, hw, hget, hmk, Option.bind_some, e1, hdrop]
    by_cases hmk2 : isMk s 1 5 = true
    · rw [if_pos hmk2, n, hmk2, Bool.true_and]
    · rw [if_neg hmk2, (Bool.not_eq_true _).mp hmk2, Bool.false_and, if_neg (by decide)]
theorem iSig_l1 (W : List (List ByteArray)) (i : Nat) (hi : i < W.length) (hWl : W.length ≤ 1048577) (w : List ByteArray) (hwl : w.length ≤ 1048577) (hws : ∀ s ∈ w, s.size ≤ 1048576) (x4 : Int) (q : Nat) (d : Nat) : ∀ (m j : Nat), m = q + d + 1 → j ≤ w.length → w.length - j = d →
    impl_isSignal.l1 m x4 W (W.length : Int) (i : Int) w (w.length : Int) (j : Int) = if okL (w.drop j) = true then impl_isSignal.l0 q x4 W (W.length : Int) ((i + 1 : Nat) : Int) else some false := by
  have ei : wrap64 ((i : Int) + 1) = ((i + 1 : Nat) : Int) := by rw [wr (by omega) (by omega)]; omega
  induction d with
  | zero =>
    intro m j hm hj hd
    subst hm
    have hjl : j = w.length := by clear ei; omega
    have cj : ¬ (j : Int) < (w.length : Int) := by clear ei; omega
    simp only [impl_isSignal.l1, Nat.add_zero, cj, if_false, ei]
    rw [hjl, List.drop_length, if_pos (show okL [] = true from rfl)]
  | succ d ih =>
    intro m j hm hj hd
    obtain ⟨m, rfl⟩ : ∃ m', m = m' + 1 := ⟨q + d + 1, by clear ei ih; omega⟩
    have hlt : j < w.length := by clear ei ih; omega
    obtain ⟨s, hs, hget, hdrop⟩ : ∃ s : ByteArray, s.size ≤ 1048576 ∧ rdOf ByteArray.empty w (j : Int) = s ∧ okL (w.drop j) = (isMk s 1 5 && okL (w.drop (j + 1))) := ⟨w[j], hws _ (List.getElem_mem hlt), rdS_get w j hlt, by rw [List.drop_eq_getElem_cons hlt]; rfl⟩
    have n := ih m (j + 1) (Nat.succ.inj hm) hlt (by rw [Nat.sub_add_eq, hd]; rfl)
    have c1 : (j : Int) < (w.length : Int) := by clear ei ih n; omega
    have c2 : (0 : Int) ≤ (j : Int) := by clear ei ih n; omega
    have hmk : impl_isLetterMarks.f s = some (isMk s 1 5) := by
      unfold impl_isLetterMarks.f
      rw [areMarks_eq s hs 1 5]; rfl
    have e1 : wrap64 ((j : Int) + 1) = ((j + 1 : Nat) : Int) := by clear ei ih n; rw [wr (by omega) (by omega)]; omega
    simp only [impl_isSignal.l1, c1, c2, if_true, hget, hmk, Option.bind_some, e1, hdrop]
    by_cases hmk2 : isMk s 1 5 = true
    · rw [if_pos hmk2, n, hmk2, Bool.true_and]
    · rw [if_neg hmk2, (Bool.not_eq_true _).mp hmk2, Bool.false_and, if_neg (by decide)]
def fuW (W : List (List ByteArray)) : Nat := (W.map fun w => w.length + 2).sum
theorem fuW_eq (W : List (List ByteArray)) : fuW W = cntW W + 2 * W.length := by
  induction W with
  | nil => rfl
  | cons w W ih => simp only [fuW, cntW, List.map_cons, List.sum_cons, List.length_cons] at ih ⊢; omega
theorem sig_l0 (W : List (List ByteArray)) (hWl : W.length ≤ 1048577) (hW : ∀ w ∈ W, w.length ≤ 1048577 ∧ ∀ s ∈ w, s.size ≤ 1048576) (q0 : Nat) (hq0 : 2097160 ≤ q0) (d : Nat) : ∀ (m i : Nat) (x4 y4 : Int), m = q0 + fuW (W.drop i) + 1 → i ≤ W.length → W.length - i = d → 0 ≤ x4 → x4 + (cntW (W.drop i) : Int) + ((W.drop i).length : Int) ≤ 1099511627776 → -1 ≤ y4 → y4 + (cntW (W.drop i) : Int) ≤ 1099511627776 →
    spec_l2Signal.l0 m W x4 (i : Int) = some (okW (W.drop i) && decide (x4 + (cntW (W.drop i) : Int) + ((W.drop i).length : Int) - 1 ≤ 12)) ∧
    impl_isSignal.l0 m y4 W (W.length : Int) (i : Int) = some (okW (W.drop i) && decide (y4 + (cntW (W.drop i) : Int) ≤ 12)) := by
  induction d with
  | zero =>
    intro m i x4 y4 hm hi hd h0 hx hy0 hy
    subst hm
    have hil : i = W.length := by omega
    have hdr : W.drop i = [] := by rw [hil, List.drop_length]
    rw [hdr] at hx hy ⊢
    have hc : cntW [] = 0 := rfl
    have hl : ([] : List (List ByteArray)).length = 0 := rfl
    have ho : okW [] = true := rfl
    rw [hc, hl] at hx ⊢
    rw [hc] at hy
    have ci : ¬ (i : Int) < (W.length : Int) := by omega
    simp only [spec_l2Signal.l0, impl_isSignal.l0, ci, if_false, ho, Bool.true_and]
    rw [wr (by omega) (by omega)]
    refine ⟨congrArg some (decide_eq_decide.2 ?_), congrArg some (decide_eq_decide.2 ?_)⟩ <;> omega
  | succ d ih =>
    intro m i x4 y4 hm hi hd h0 hx hy0 hy
    have hlt : i < W.length := by omega
    obtain ⟨w, hwl, hws, hget, hdr⟩ : ∃ w : List ByteArray, w.length ≤ 1048577 ∧ (∀ s ∈ w, s.size ≤ 1048576) ∧ rd_L1 W (i : Int) = w ∧ W.drop i = w :: W.drop (i + 1) := ⟨W[i], (hW _ (List.getElem_mem hlt)).1, (hW _ (List.getElem_mem hlt)).2, rdL_get W i hlt, List.drop_eq_getElem_cons hlt⟩
    rw [hdr] at hm hx hy ⊢
    rw [cntW_cons, List.length_cons] at hx
    rw [cntW_cons] at hy
    have hfu : fuW (w :: W.drop (i + 1)) = w.length + 2 + fuW (W.drop (i + 1)) := by simp [fuW]
    rw [hfu] at hm
    obtain ⟨q, hq⟩ : ∃ q, q = q0 + fuW (W.drop (i + 1)) + 1 := ⟨_, rfl⟩
    obtain ⟨m, rfl⟩ : ∃ m', m = m' + 1 := ⟨q + w.length + 1, by omega⟩
    have s := sSig_l1 W i hlt hWl w hget hwl hws x4 h0 (by omega) q (by omega) w.length m 0 (by omega) (by omega) (by omega)
    have t := iSig_l1 W i hlt hWl w hwl hws (y4 + (w.length : Int)) q w.length m 0 (by omega) (by omega) (by omega)
    have n := ih q (i + 1) (x4 + (w.length : Int) + 1) (y4 + (w.length : Int)) hq hlt (by omega) (by omega) (by omega) (by omega) (by omega)
    rw [List.drop_zero, n.1] at s
    rw [List.drop_zero, n.2] at t
    have ci : (i : Int) < (W.length : Int) := by omega
    have c0 : (0 : Int) ≤ (i : Int) := by omega
    have ey : wrap64 (y4 + (w.length : Int)) = y4 + (w.length : Int) := by rw [wr (by omega) (by omega)]
    have hz : ((0 : Nat) : Int) = 0 := rfl
    rw [hz] at s t
    have hok : okW (w :: W.drop (i + 1)) = (okL w && okW (W.drop (i + 1))) := rfl
    rw [hok, cntW_cons, List.length_cons]
    simp only [spec_l2Signal.l0, impl_isSignal.l0, ci, c0, if_true, hget, ey, s, t]
    clear ey s t n ih
    by_cases ho : okL w = true
    · rw [if_pos ho, if_pos ho, ho, Bool.true_and]
      refine ⟨congrArg some (congrArg (okW (W.drop (i + 1)) && ·) (decide_eq_decide.2 ?_)), congrArg some (congrArg (okW (W.drop (i + 1)) && ·) (decide_eq_decide.2 ?_))⟩ <;> omega
    · rw [if_neg ho, if_neg ho, (Bool.not_eq_true _).mp ho]
      exact ⟨rfl, rfl⟩
theorem wordsL_cnt (s : ByteArray) : cntW (wordsL s) ≤ s.size + 1 := by
  have h := pieces_sum 47 s.size s (Nat.le_refl _)
  unfold wordsL cntW
  rw [List.map_map]
  have : ∀ P : List ByteArray, (P.map ((fun w => w.length) ∘ fun w => pieces w 32)).sum ≤ (P.map fun p => p.size + 1).sum := by
    intro P
    induction P with
    | nil => exact Nat.le_refl _
    | cons p P ih =>
      have := pieces_len p 32
      simp only [List.map_cons, List.sum_cons, Function.comp] at ih ⊢; omega
  have := this (pieces s 47)
  omega
theorem okL_size (w : List ByteArray) (h : okL w = true) : (w.map fun p => p.size + 1).sum ≤ 6 * w.length := by
  induction w with
  | nil => exact Nat.le_refl _
  | cons a w ih =>
    simp only [okL, List.all_cons, Bool.and_eq_true] at h ih
    have h1 := ih h.2
    have h2 : a.size ≤ 5 := by
      have := h.1
      simp only [isMk, Bool.and_eq_true, decide_eq_true_eq] at this
      omega
    simp only [List.map_cons, List.sum_cons, List.length_cons]; omega
theorem okW_size (s : ByteArray) (h : okW (wordsL s) = true) : s.size + 1 ≤ 6 * cntW (wordsL s) := by
  have h47 := pieces_sum 47 s.size s (Nat.le_refl _)
  have : ∀ P : List ByteArray, okW (P.map fun w => pieces w 32) = true → (P.map fun p => p.size + 1).sum ≤ 6 * cntW (P.map fun w => pieces w 32) := by
    intro P
    induction P with
    | nil => intro _; exact Nat.le_refl _
    | cons p P ih =>
      intro ho
      simp only [okW, List.map_cons, List.all_cons, Bool.and_eq_true] at ho ih
      have h1 := ih ho.2
      have h2 := okL_size _ ho.1
      rw [pieces_sum 32 p.size p (Nat.le_refl _)] at h2
      rw [List.map_cons, List.map_cons, List.sum_cons, cntW_cons]; omega
  have := this (pieces s 47) h
  unfold wordsL; omega
def isSig (s : ByteArray) : Bool := if s.size = 0 then true else if s.size > 72 then false else okW (wordsL s) && decide ((cntW (wordsL s) : Int) + ((wordsL s).length : Int) - 1 ≤ 12)
theorem wordsL_bounds (s : ByteArray) (hs : s.size ≤ 1048576) : (wordsL s).length ≤ 1048577 ∧ ∀ w ∈ wordsL s, w.length ≤ 1048577 ∧ ∀ x ∈ w, x.size ≤ 1048576 := by
  refine ⟨?_, fun w hw => ?_⟩
  · have := pieces_len s 47
    unfold wordsL; rw [List.length_map]; omega
  · unfold wordsL at hw
    obtain ⟨p, hp, rfl⟩ := List.mem_map.1 hw
    have h1 := piece_size s 47 p hp
    have h2 := pieces_len p 32
    exact ⟨by omega, fun x hx => by have := piece_size p 32 x hx; omega⟩
theorem isSig_both (s : ByteArray) (hs : s.size ≤ 1048576) (k : Nat) (hk : 8388640 ≤ k) : spec_l2Signal.f k s = some (isSig s) ∧ impl_isSignal.f k s = some (isSig s) := by
  obtain ⟨b1, b2⟩ := wordsL_bounds s hs
  have hcnt := wordsL_cnt s
  have hfu := fuW_eq (wordsL s)
  unfold spec_l2Signal.f impl_isSignal.f isSig
  rw [lettersOf_eq s hs k (by omega)]
  simp only [isNil, Option.bind_some]
  by_cases h0 : s.size = 0
  · rw [if_pos h0, if_pos h0]
    refine ⟨rfl, ?_⟩
    have e : wordsI s = [] := by unfold wordsI; rw [if_pos h0]
    obtain ⟨k, rfl⟩ : ∃ m, k = m + 1 := ⟨k - 1, by omega⟩
    rw [e]
    simp only [impl_isSignal.l0, List.length_nil]
    rw [if_neg (by omega)]
    have hw : wrap64 (((0 : Nat) : Int) - 1) ≤ 12 := by rw [wr (by omega) (by omega)]; omega
    exact congrArg some (decide_eq_true hw)
  · have e : wordsI s = wordsL s := by unfold wordsI; rw [if_neg h0]
    have hl1 : 1 ≤ (wordsL s).length := by
      unfold wordsL
      rw [List.length_map]
      rcases pieces_step s 47 with h | ⟨o, ho, h⟩
      · rw [h]; simp
      · rw [h]; simp
    have both := sig_l0 (wordsL s) b1 b2 (k - fuW (wordsL s) - 1) (by omega) (wordsL s).length k 0 0 (((wordsL s).length : Int) - 1) (by rw [List.drop_zero]; omega) (by omega) (by omega) (by omega) (by rw [List.drop_zero]; omega) (by omega) (by rw [List.drop_zero]; omega)
    rw [List.drop_zero] at both
    have hz : ((0 : Nat) : Int) = 0 := rfl
    rw [hz, Int.zero_add] at both
    rw [if_neg h0, if_neg h0, e, wr (by omega) (by omega), both.2]
    have hcomm : decide (((wordsL s).length : Int) - 1 + (cntW (wordsL s) : Int) ≤ 12) = decide ((cntW (wordsL s) : Int) + ((wordsL s).length : Int) - 1 ≤ 12) := decide_eq_decide.2 (by omega)
    rw [hcomm]
    by_cases h72 : s.size > 72
    · have h72' : (s.size : Int) > 72 := by omega
      rw [if_pos h72', if_pos h72]
      refine ⟨rfl, congrArg some ?_⟩
      by_cases ho : okW (wordsL s) = true
      · have := okW_size s ho
        rw [ho, Bool.true_and, decide_eq_false_iff_not]; omega
      · rw [(Bool.not_eq_true _).mp ho, Bool.false_and]
    · have h72' : ¬ (s.size : Int) > 72 := by omega
      rw [if_neg h72', if_neg h72, l2Words_eq s hs k (by omega)]
      simp only [Option.bind_some]
      exact ⟨both.1, trivial⟩
/-! how long marks take, told alike by both sides -/
def dashes (s : ByteArray) (i : Nat) : Nat := (s.data.toList.take i).count 45
theorem dashes_succ (s : ByteArray) (i : Nat) (h : i < s.size) : dashes s (i + 1) = dashes s i + (if bt s (i : Int) = 45 then 1 else 0) := by
  have hsz := size_data s
  have hlt : i < s.data.toList.length := by omega
  unfold dashes
  rw [List.take_succ_eq_append_getElem hlt, List.count_append]
  by_cases h1 : bt s (i : Int) = 45
  · rw [if_pos h1]
    rw [bt_is s i (by omega) 45 45 (by decide)] at h1
    rw [h1]; rfl
  · rw [if_neg h1]
    rw [bt_is s i (by omega) 45 45 (by decide)] at h1
    rw [List.count_singleton, if_neg (by rw [beq_iff_eq]; exact h1)]
theorem dashes_le (s : ByteArray) (i : Nat) : dashes s i ≤ i := by
  unfold dashes
  exact Nat.le_trans List.count_le_length (by rw [List.length_take]; omega)
theorem l2Time_l0 (s : ByteArray) (hs : s.size ≤ 1048576) (d : Nat) (m : Int) (hm : 0 ≤ m ∧ m ≤ 1048576) : ∀ (k i : Nat), i ≤ s.size → s.size - i = d → d < k →
    spec_l2Time.l0 k s (m + (i : Int) + 2 * (dashes s i : Int)) (i : Int) = some (m + (s.size : Int) + 2 * (dashes s s.size : Int)) := by
  induction d with
  | zero =>
    intro k i hi hd hk
    obtain ⟨k, rfl⟩ := pred_of_lt hk
    simp only [spec_l2Time.l0]; rw [if_neg (by omega), show i = s.size by omega]
  | succ d ih =>
    intro k i hi hd hk
    obtain ⟨k, rfl⟩ := pred_of_lt hk
    have c1 : (i : Int) < (s.size : Int) := by omega
    have c2 : (0 : Int) ≤ (i : Int) := by omega
    have hle := dashes_le s i
    have e : wrap64 ((i : Int) + 1) = ((i + 1 : Nat) : Int) := by rw [wr (by omega) (by omega)]; omega
    have hs' := dashes_succ s i (by omega)
    have e2 : wrap64 (m + (i : Int) + 2 * (dashes s i : Int) + 1) = m + (i : Int) + 2 * (dashes s i : Int) + 1 := by rw [wr (by omega) (by omega)]
    have e3 : wrap64 (m + (i : Int) + 2 * (dashes s i : Int) + 1 + 2) = m + (i : Int) + 2 * (dashes s i : Int) + 1 + 2 := by rw [wr (by omega) (by omega)]
    have n := ih k (i + 1) (by omega) (by omega) (by omega)
    simp only [spec_l2Time.l0, c1, c2, if_true, e, e2, e3]
    by_cases h45 : bt s (i : Int) = 45
    · rw [if_pos h45] at hs' ⊢
      rw [← n]; congr 1; rw [hs']; omega
    · rw [if_neg h45] at hs' ⊢
      rw [← n]; congr 1; rw [hs']; omega
theorem l2Time_eq (s : ByteArray) (hs : s.size ≤ 1048576) (h1 : 1 ≤ s.size) (k : Nat) (hk : s.size < k) : spec_l2Time.f k s = some (2 * (s.size : Int) - 1 + 2 * (dashes s s.size : Int)) := by
  unfold spec_l2Time.f spec_l1Most.f
  rw [wr (by omega) (by omega)]
  have := l2Time_l0 s hs s.size ((s.size : Int) - 1) (by omega) k 0 (by omega) (by omega) hk
  simp only [dashes, List.take_zero, List.count_nil, Int.natCast_zero, Int.add_zero, Int.mul_zero] at this
  by_cases h : (0 : Int) > (s.size : Int) - 1
  · omega
  · rw [if_neg h]
    simp only [Option.bind_some]
    rw [this]; unfold dashes; congr 1; omega
theorem timeOf_eq (s : ByteArray) (hs : s.size ≤ 1048576) (h1 : 1 ≤ s.size) : impl_timeOf.f s = some (2 * (s.size : Int) - 1 + 2 * (dashes s s.size : Int)) := by
  unfold impl_timeOf.f strings_Count.f
  have hsz := size_data s
  have hle := dashes_le s s.size
  have e : Lib.countByte s.data.toList 45 = dashes s s.size := by
    unfold Lib.countByte dashes
    rw [List.take_of_length_le (by omega)]
  simp only [Option.bind_some, e]
  rw [wr (i := 2 * (s.size : Int)) (by omega) (by omega), wr (i := 2 * (s.size : Int) - 1) (by omega) (by omega), wr (i := 2 * (dashes s s.size : Int)) (by omega) (by omega), wr (by omega) (by omega)]
theorem sig_small (s : ByteArray) (h0 : s.size ≠ 0) (h : isSig s = true) : cntW (wordsL s) + (wordsL s).length ≤ 13 := by
  unfold isSig at h
  rw [if_neg h0] at h
  by_cases h72 : s.size > 72
  · rw [if_pos h72] at h; cases h
  · rw [if_neg h72] at h
    simp only [Bool.and_eq_true, decide_eq_true_eq] at h
    omega
theorem cnt_mem : ∀ (W : List (List ByteArray)) (w : List ByteArray), w ∈ W → w.length ≤ cntW W
  | [], _, h => by cases h
  | a :: W, w, h => by
    rw [cntW_cons]
    rcases List.mem_cons.1 h with h | h
    · rw [h]; omega
    · have := cnt_mem W w h; omega
def tm (s : ByteArray) : Int := 2 * (s.size : Int) - 1 + 2 * (dashes s s.size : Int)
theorem tm_le (s : ByteArray) (h : isMk s 1 5 = true) : 1 ≤ s.size ∧ s.size ≤ 5 ∧ 0 ≤ tm s ∧ tm s ≤ 19 := by
  simp only [isMk, Bool.and_eq_true, decide_eq_true_eq] at h
  have hd := dashes_le s s.size
  unfold tm
  omega
def tw : Nat → List ByteArray → Int
  | _, [] => 0
  | j, a :: t => (if j = 0 then 0 else 3) + tm a + tw (j + 1) t
theorem tw_le : ∀ (w : List ByteArray) (j : Nat), okL w = true → 0 ≤ tw j w ∧ tw j w ≤ 22 * (w.length : Int)
  | [], _, _ => ⟨Int.le_refl _, Int.le_refl _⟩
  | a :: t, j, h => by
    simp only [okL, List.all_cons, Bool.and_eq_true] at h
    have h1 := tw_le t (j + 1) h.2
    have h2 := tm_le a h.1
    simp only [tw, List.length_cons]
    split <;> omega
def tW : Nat → List (List ByteArray) → Int
  | _, [] => 0
  | i, w :: V => (if i = 0 then 0 else 7) + tw 0 w + tW (i + 1) V
theorem sT_l1 (W : List (List ByteArray)) (i : Nat) (hi : i < W.length) (hWl : W.length ≤ 100) (w : List ByteArray) (hw : rd_L1 W (i : Int) = w) (hwl : w.length ≤ 100) (hok : okL w = true) (q : Nat) (hq : 10 ≤ q) (d : Nat) : ∀ (m j : Nat) (x : Int), m = q + d + 1 → j ≤ w.length → w.length - j = d → 0 ≤ x → x + 22 * (d : Int) ≤ 1000000 →
    spec_l2TimeOf.l1 m x W (i : Int) (j : Int) = spec_l2TimeOf.l0 q (x + tw j (w.drop j)) W ((i + 1 : Nat) : Int) := by
  have ci1 : (i : Int) < (W.length : Int) := by omega
  have ci0 : (0 : Int) ≤ (i : Int) := by omega
  have ei : wrap64 ((i : Int) + 1) = ((i + 1 : Nat) : Int) := by rw [wr (by omega) (by omega)]; omega
  induction d with
  | zero =>
    intro m j x hm hj hd hx hx2
    subst hm
    have hjl : j = w.length := by clear ei; omega
    have cj : ¬ (j : Int) < (w.length : Int) := by clear ei; omega
    simp only [spec_l2TimeOf.l1, Nat.add_zero, ci0, ci1, if_true, hw, cj, if_false, ei]
    rw [hjl, List.drop_length]
    simp only [tw, Int.add_zero]
  | succ d ih =>
    intro m j x hm hj hd hx hx2
    obtain ⟨m, rfl⟩ : ∃ m', m = m' + 1 := ⟨q + d + 1, by clear ei ih; omega⟩
    have hmq : 10 < m := by clear ei ih; omega
    have hlt : j < w.length := by clear ei ih; omega
    obtain ⟨s, hmk, hget, hdrop⟩ : ∃ s : ByteArray, isMk s 1 5 = true ∧ rdOf ByteArray.empty w (j : Int) = s ∧ tw j (w.drop j) = (if j = 0 then 0 else 3) + tm s + tw (j + 1) (w.drop (j + 1)) := ⟨w[j], List.all_eq_true.1 hok _ (List.getElem_mem hlt), rdS_get w j hlt, by rw [List.drop_eq_getElem_cons hlt]; rfl⟩
    have htm := tm_le s hmk
    have hT : spec_l2Time.f m s = some (tm s) := l2Time_eq s (by clear ei ih; omega) htm.1 m (by clear ei ih; omega)
    have c1 : (j : Int) < (w.length : Int) := by clear ei ih; omega
    have c2 : (0 : Int) ≤ (j : Int) := by clear ei ih; omega
    have e1 : wrap64 ((j : Int) + 1) = ((j + 1 : Nat) : Int) := by clear ei ih; rw [wr (by omega) (by omega)]; omega
    have n := fun y => ih m (j + 1) y (Nat.succ.inj hm) hlt (by rw [Nat.sub_add_eq, hd]; rfl)
    rw [hdrop]
    simp only [spec_l2TimeOf.l1, ci0, ci1, c1, c2, if_true, hw, hget, hT, Option.bind_some, e1]
    clear e1 ei ih
    by_cases h0 : (j : Int) > 0
    · rw [if_pos h0, if_neg (by omega), wr (i := x + 3) (by clear n; omega) (by clear n; omega), wr (by clear n; omega) (by clear n; omega), n _ (by clear n; omega) (by clear n; omega)]
      congr 1; clear n; omega
    · rw [if_neg h0, if_pos (by omega), wr (by clear n; omega) (by clear n; omega), n _ (by clear n; omega) (by clear n; omega)]
      congr 1; clear n; omega
theorem iT_l1 (W : List (List ByteArray)) (i : Nat) (hi : i < W.length) (hWl : W.length ≤ 100) (w : List ByteArray) (hwl : w.length ≤ 100) (hok : okL w = true) (q d : Nat) : ∀ (m j : Nat) (x : Int), m = q + d + 1 → j ≤ w.length → w.length - j = d → 0 ≤ x → x + 22 * (d : Int) ≤ 1000000 →
    impl_signalTime.l1 m x W (W.length : Int) (i : Int) w (w.length : Int) (j : Int) = impl_signalTime.l0 q (x + tw j (w.drop j)) W (W.length : Int) ((i + 1 : Nat) : Int) := by
  have ei : wrap64 ((i : Int) + 1) = ((i + 1 : Nat) : Int) := by rw [wr (by omega) (by omega)]; omega
  induction d with
  | zero =>
    intro m j x hm hj hd hx hx2
    subst hm
    have hjl : j = w.length := by clear ei; omega
    have cj : ¬ (j : Int) < (w.length : Int) := by clear ei; omega
    simp only [impl_signalTime.l1, Nat.add_zero, cj, if_false, ei]
    rw [hjl, List.drop_length]
    simp only [tw, Int.add_zero]
  | succ d ih =>
    intro m j x hm hj hd hx hx2
    obtain ⟨m, rfl⟩ : ∃ m', m = m' + 1 := ⟨q + d + 1, by clear ei ih; omega⟩
    have hlt : j < w.length := by clear ei ih; omega
    obtain ⟨s, hmk, hget, hdrop⟩ : ∃ s : ByteArray, isMk s 1 5 = true ∧ rdOf ByteArray.empty w (j : Int) = s ∧ tw j (w.drop j) = (if j = 0 then 0 else 3) + tm s + tw (j + 1) (w.drop (j + 1)) := ⟨w[j], List.all_eq_true.1 hok _ (List.getElem_mem hlt), rdS_get w j hlt, by rw [List.drop_eq_getElem_cons hlt]; rfl⟩
    have htm := tm_le s hmk
    have hT : impl_timeOf.f s = some (tm s) := timeOf_eq s (by clear ei ih; omega) htm.1
    have c1 : (j : Int) < (w.length : Int) := by clear ei ih; omega
    have c2 : (0 : Int) ≤ (j : Int) := by clear ei ih; omega
    have e1 : wrap64 ((j : Int) + 1) = ((j + 1 : Nat) : Int) := by clear ei ih; rw [wr (by omega) (by omega)]; omega
    have n := fun y => ih m (j + 1) y (Nat.succ.inj hm) hlt (by rw [Nat.sub_add_eq, hd]; rfl)
    rw [hdrop]
    simp only [impl_signalTime.l1, c1, c2, if_true, hget, hT, Option.bind_some, e1]
    clear e1 ei ih
    by_cases h0 : (j : Int) > 0
    · rw [if_pos h0, if_neg (by omega), wr (i := x + tm s) (by clear n; omega) (by clear n; omega), wr (by clear n; omega) (by clear n; omega), n _ (by clear n; omega) (by clear n; omega)]
      congr 1; clear n; omega
    · rw [if_neg h0, if_pos (by omega), wr (by clear n; omega) (by clear n; omega), n _ (by clear n; omega) (by clear n; omega)]
      congr 1; clear n; omega
theorem time_l0 (W : List (List ByteArray)) (hWl : W.length ≤ 100) (hW : ∀ w ∈ W, w.length ≤ 100 ∧ okL w = true) (q0 : Nat) (hq0 : 10 ≤ q0) (d : Nat) : ∀ (m i : Nat) (x : Int), m = q0 + fuW (W.drop i) + 1 → i ≤ W.length → W.length - i = d → 0 ≤ x → x + 2300 * (d : Int) ≤ 500000 →
    spec_l2TimeOf.l0 m x W (i : Int) = some (x + tW i (W.drop i)) ∧ impl_signalTime.l0 m x W (W.length : Int) (i : Int) = some (x + tW i (W.drop i)) := by
  induction d with
  | zero =>
    intro m i x hm hi hd hx hx2
    subst hm
    have hil : i = W.length := by omega
    have hdr : W.drop i = [] := by rw [hil, List.drop_length]
    have ci : ¬ (i : Int) < (W.length : Int) := by omega
    simp only [spec_l2TimeOf.l0, impl_signalTime.l0, ci, if_false, hdr, tW, Int.add_zero]
    exact ⟨trivial, trivial⟩
  | succ d ih =>
    intro m i x hm hi hd hx hx2
    have hlt : i < W.length := by omega
    obtain ⟨w, hwl, hok, hget, hdr⟩ : ∃ w : List ByteArray, w.length ≤ 100 ∧ okL w = true ∧ rd_L1 W (i : Int) = w ∧ W.drop i = w :: W.drop (i + 1) := ⟨W[i], (hW _ (List.getElem_mem hlt)).1, (hW _ (List.getElem_mem hlt)).2, rdL_get W i hlt, List.drop_eq_getElem_cons hlt⟩
    have hfu : fuW (w :: W.drop (i + 1)) = w.length + 2 + fuW (W.drop (i + 1)) := by simp [fuW]
    rw [hdr] at hm ⊢
    rw [hfu] at hm
    obtain ⟨q, hq⟩ : ∃ q, q = q0 + fuW (W.drop (i + 1)) + 1 := ⟨_, rfl⟩
    obtain ⟨p, hp⟩ : ∃ p, p = q + w.length + 1 := ⟨_, rfl⟩
    obtain rfl : m = p + 1 := by omega
    have htw := tw_le w 0 hok
    have c1 : (i : Int) < (W.length : Int) := by omega
    have c0 : (0 : Int) ≤ (i : Int) := by omega
    have hz : ((0 : Nat) : Int) = 0 := rfl
    have s := fun y h1 h2 => sT_l1 W i hlt hWl w hget hwl hok q (by omega) w.length p 0 y hp (by omega) (by omega) h1 h2
    have t := fun y h1 h2 => iT_l1 W i hlt hWl w hwl hok q w.length p 0 y hp (by omega) (by omega) h1 h2
    rw [List.drop_zero, hz] at s t
    simp only [spec_l2TimeOf.l0, impl_signalTime.l0, c1, c0, if_true, hget, tW]
    by_cases h0 : (i : Int) > 0
    · have n := ih q (i + 1) (x + 7 + tw 0 w) hq hlt (by rw [Nat.sub_add_eq, hd]; rfl) (by omega) (by omega)
      have ea : x + ((if i = 0 then 0 else 7) + tw 0 w + tW (i + 1) (W.drop (i + 1))) = x + 7 + tw 0 w + tW (i + 1) (W.drop (i + 1)) := by rw [if_neg (by omega)]; omega
      rw [if_pos h0, if_pos h0, wr (by omega) (by omega), s _ (by omega) (by omega), t _ (by omega) (by omega), ea]
      exact n
    · have n := ih q (i + 1) (x + tw 0 w) hq hlt (by rw [Nat.sub_add_eq, hd]; rfl) (by omega) (by omega)
      have ea : x + ((if i = 0 then 0 else 7) + tw 0 w + tW (i + 1) (W.drop (i + 1))) = x + tw 0 w + tW (i + 1) (W.drop (i + 1)) := by rw [if_pos (by omega)]; omega
      rw [if_neg h0, if_neg h0, s _ (by omega) (by omega), t _ (by omega) (by omega), ea]
      exact n
theorem sig_ok (s : ByteArray) (h0 : s.size ≠ 0) (h : isSig s = true) : okW (wordsL s) = true := by
  unfold isSig at h
  rw [if_neg h0] at h
  by_cases h72 : s.size > 72
  · rw [if_pos h72] at h; cases h
  · rw [if_neg h72] at h
    exact (Bool.and_eq_true_iff.1 h).1
theorem timeAns (s : ByteArray) (hs : s.size ≤ 1048576) : ∃ R, ∀ k, 8388700 ≤ k → spec_TimeOfSignal.f k s = some R ∧ impl_TimeOfSignal.f k s = some R := by
  by_cases hg : isSig s = true
  · by_cases h0 : s.size = 0
    · refine ⟨(0, true), fun k hk => ?_⟩
      have b := isSig_both s hs k (by omega)
      have w0 : wordsI s = [] := by unfold wordsI; rw [if_pos h0]
      have hlo := lettersOf_eq s hs k (by omega)
      rw [w0] at hlo
      unfold spec_TimeOfSignal.f impl_TimeOfSignal.f spec_l2TimeOf.f impl_signalTime.f
      rw [b.1, b.2, hg, hlo]
      simp only [Option.bind_some, if_true, isNil, h0]
      obtain ⟨k, rfl⟩ : ∃ m, k = m + 1 := ⟨k - 1, by omega⟩
      simp only [impl_signalTime.l0, List.length_nil]
      rw [if_neg (by omega)]
      exact ⟨trivial, rfl⟩
    · refine ⟨(0 + tW 0 (wordsL s), true), fun k hk => ?_⟩
      have sm := sig_small s h0 hg
      have ok := sig_ok s h0 hg
      have b := isSig_both s hs k (by omega)
      have w0 : wordsI s = wordsL s := by unfold wordsI; rw [if_neg h0]
      have hlo := lettersOf_eq s hs k (by omega)
      rw [w0] at hlo
      have hwo := l2Words_eq s hs k (by omega)
      have f1 := fuW_eq (wordsL s)
      have hm : ∀ w ∈ wordsL s, w.length ≤ 100 ∧ okL w = true := fun w hw => ⟨by have := cnt_mem _ w hw; omega, List.all_eq_true.1 ok w hw⟩
      have t := time_l0 (wordsL s) (by omega) hm (k - fuW (wordsL s) - 1) (by omega) (wordsL s).length k 0 0 (by rw [List.drop_zero]; omega) (by omega) (by omega) (by omega) (by omega)
      have hz : ((0 : Nat) : Int) = 0 := rfl
      rw [List.drop_zero, hz] at t
      unfold spec_TimeOfSignal.f impl_TimeOfSignal.f spec_l2TimeOf.f impl_signalTime.f
      rw [b.1, b.2, hg, hlo, hwo]
      simp only [Option.bind_some, if_true, isNil, h0, if_false, t.1, t.2]
      exact ⟨trivial, trivial⟩
  · refine ⟨(0, false), fun k hk => ?_⟩
    have b := isSig_both s hs k (by omega)
    unfold spec_TimeOfSignal.f impl_TimeOfSignal.f
    rw [b.1, b.2, (Bool.not_eq_true _).mp hg]
    exact ⟨rfl, rfl⟩
theorem FnExactTimeOfSignal : laws_FnExactTimeOfSignal.Pure := by
  intro s hs
  by_cases h : (s.size : Int) > 1048576
  · exact ⟨0, by unfold laws_FnExactTimeOfSignal.f; rw [if_pos h]⟩
  · obtain ⟨R, hR⟩ := timeAns s (by omega)
    obtain ⟨M, hM⟩ : ∃ M : Nat, 8388700 ≤ M := ⟨8388700, Nat.le_refl _⟩
    refine ⟨M, ?_⟩
    have b := hR M hM
    unfold laws_FnExactTimeOfSignal.f
    rw [if_neg h, b.1, b.2]
    simp

end Go.Proofs.YtebdmdegmlblgaaDoor.Pure
