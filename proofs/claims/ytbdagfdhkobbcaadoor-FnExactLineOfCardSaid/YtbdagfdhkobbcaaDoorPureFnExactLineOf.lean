/- LineOf of the program and of the reference answer alike at every text. -/
import Derived.Test.YtbdagfdhkobbcaaDoorHFnExactLineOfx5
namespace Go.Proofs.YtbdagfdhkobbcaaDoor.Pure
open Go.RowKit Go.Proofs.YtbdagfdhkobbcaaDoor.HFnExactLineOf Go.Proofs.YtbdagfdhkobbcaaDoorW.PrintWords Go.Proofs.YtbdagfdhkobbcaaDoorW.PrintLast
set_option linter.unusedVariables false
set_option linter.unusedSimpArgs false
set_option linter.unnecessarySimpa false

theorem wr {i : Int} (h0 : -9223372036854775808 ≤ i) (h1 : i ≤ 9223372036854775807) : wrap64 i = i := by unfold wrap64; omega
theorem rd_nat (xs : List Int) (i : Nat) : rd xs (i : Int) = xs.getD i 0 := by simp [rd]
theorem rd_get (xs : List Int) (i : Nat) (h : i < xs.length) : rd xs (i : Int) = xs[i] := by simp [rd, h]
theorem pred_of_lt {d k : Nat} (h : d < k) : ∃ m, k = m + 1 := ⟨k - 1, by omega⟩
/-! bytes of a text -/
theorem size_data (s : ByteArray) : s.data.toList.length = s.size := Array.length_toList
theorem bt_nat (s : ByteArray) (i : Nat) (h : i < s.size) : bt s (i : Int) = ((s.data.toList[i]'(by rw [size_data]; exact h)).toNat : Int) := by
  have := bt_at s (i : Int) (by simpa using h)
  rw [← this]
  rfl
theorem byte_num (b c : UInt8) (n : Nat) (hc : c.toNat = n) : ((b.toNat : Int) = (n : Int)) ↔ b = c := by
  constructor
  · intro h
    exact UInt8.toNat_inj.1 (by omega)
  · rintro rfl; omega
/-! what is left when bytes of a set are taken off both ends -/
theorem dropWhile_nil {p : UInt8 → Bool} (l : List UInt8) : l.dropWhile p = [] ↔ l.all p = true := by
  induction l with
  | nil => simp
  | cons a l ih =>
    rw [List.dropWhile_cons]
    by_cases h : p a = true
    · rw [if_pos h, ih]; simp [h]
    · rw [if_neg h]; simp [h]
theorem trimS_nil (l cs : List UInt8) : Lib.trimS l cs = [] ↔ l.all (cs.contains ·) = true := by
  unfold Lib.trimS Lib.trimLeftS Lib.trimRightS
  rw [dropWhile_nil]
  constructor
  · intro h
    by_cases hr : (l.reverse.dropWhile (cs.contains ·)) = []
    · rw [dropWhile_nil, List.all_reverse] at hr; exact hr
    · exfalso
      rw [List.all_reverse] at h
      cases hd : l.reverse.dropWhile (cs.contains ·) with
      | nil => exact hr hd
      | cons a t =>
        have ha : cs.contains a = false := by
          have := List.head?_dropWhile_not (cs.contains ·) l.reverse
          rw [hd] at this
          simpa using this
        rw [hd] at h
        simp at h
        rw [List.contains_eq_mem] at ha
        simp [h.1] at ha
  · intro h
    have : (l.reverse.dropWhile (cs.contains ·)) = [] := by
      rw [dropWhile_nil, List.all_reverse]; exact h
    rw [this]; rfl
theorem toList_nil (l : List UInt8) : ((⟨l.toArray⟩ : ByteArray).toList == ([] : List UInt8)) = l.isEmpty := by
  have : (⟨l.toArray⟩ : ByteArray).toList = l := by
    rw [ByteArray.toList_eq]
  rw [this]
  cases l <;> rfl
theorem l1In_eq (a b c : Int) : spec_l1In.f a b c = some (decide (b ≤ a) && decide (a ≤ c)) := by
  unfold spec_l1In.f
  by_cases h : a ≥ b
  · rw [if_pos h]; simp [show b ≤ a from h]
  · rw [if_neg h]; simp [show ¬ b ≤ a from h]
theorem in_eq (a b c : Int) : impl_in.f a b c = some (decide (b ≤ a) && decide (a ≤ c)) := by
  unfold impl_in.f
  by_cases h : a ≥ b
  · rw [if_pos h]; simp [show b ≤ a from h]
  · rw [if_neg h]; simp [show ¬ b ≤ a from h]
/-! marks, as both sides ask for them -/
def dotDash (b : UInt8) : Bool := b == 46 || b == 45
def isMk (s : ByteArray) (lo hi : Int) : Bool := (decide (lo ≤ (s.size : Int)) && decide ((s.size : Int) ≤ hi)) && s.data.toList.all dotDash
theorem bt_is (s : ByteArray) (i : Nat) (h : i < s.size) (c : UInt8) (n : Int) (hc : (c.toNat : Int) = n) : (bt s (i : Int) = n) ↔ (s.data.toList[i]'(by rw [size_data]; exact h)) = c := by
  rw [bt_nat s i h, ← hc]
  constructor
  · intro e; exact UInt8.toNat_inj.1 (by omega)
  · intro e; rw [e]
theorem l2Marks_l0 (s : ByteArray) (hs : s.size ≤ 1048576) (lo hi : Int) (d : Nat) : ∀ (k i : Nat), i ≤ s.size → s.size - i = d → 2 * d + 1 < k → (s.data.toList.take i).all dotDash = true → spec_l2Marks.l0 k s lo hi (i : Int) = some (isMk s lo hi) := by
  have hsz := size_data s
  induction d with
  | zero =>
    intro k i hi' hd hk ht
    obtain ⟨k, rfl⟩ := pred_of_lt hk
    obtain ⟨k, rfl⟩ : ∃ m, k = m + 1 := ⟨k - 1, by omega⟩
    simp only [spec_l2Marks.l0]; rw [if_neg (by omega)]
    simp only [spec_l2Marks.j1]; rw [if_neg (by simp), l1In_eq]
    rw [List.take_of_length_le (by omega)] at ht
    simp only [Option.bind_some, isMk, ht, Bool.and_true]
  | succ d ih =>
    intro k i hi' hd hk ht
    obtain ⟨k, rfl⟩ := pred_of_lt hk
    obtain ⟨k, rfl⟩ : ∃ m, k = m + 1 := ⟨k - 1, by omega⟩
    have c1 : (i : Int) < (s.size : Int) := by omega
    have c2 : (0 : Int) ≤ (i : Int) := by omega
    have e : wrap64 ((i : Int) + 1) = ((i + 1 : Nat) : Int) := by rw [wr (by omega) (by omega)]; omega
    simp only [spec_l2Marks.l0, c1, if_true, spec_l2Marks.j1]
    by_cases h200 : (i : Int) ≤ hi
    · have hd2 : decide ((i : Int) ≤ hi) = true := by simpa using h200
      simp only [hd2, c2, if_true, e]
      have hlt : i < s.data.toList.length := by omega
      have next : dotDash (s.data.toList[i]) = true → spec_l2Marks.l0 k s lo hi ((i + 1 : Nat) : Int) = some (isMk s lo hi) := fun hb => ih k (i + 1) (by omega) (by omega) (by omega) (by
        rw [List.take_succ_eq_append_getElem hlt, List.all_append, ht]; simp only [List.all_cons, List.all_nil, hb, Bool.and_true])
      by_cases h0 : bt s (i : Int) = 46
      · rw [if_pos h0]
        exact next (by rw [bt_is s i (by omega) 46 46 (by decide)] at h0; rw [h0]; decide)
      · rw [if_neg h0]
        by_cases h1 : bt s (i : Int) = 45
        · rw [if_pos h1]
          exact next (by rw [bt_is s i (by omega) 45 45 (by decide)] at h1; rw [h1]; decide)
        · rw [if_neg h1]
          rw [bt_is s i (by omega) 46 46 (by decide)] at h0
          rw [bt_is s i (by omega) 45 45 (by decide)] at h1
          have hm : s.data.toList[i] ∈ s.data.toList := List.getElem_mem _
          have hf : s.data.toList.all dotDash = false := by
            rw [List.all_eq_false]; exact ⟨_, hm, by simp only [dotDash, Bool.or_eq_true, beq_iff_eq, h0, h1, or_self, not_false_eq_true]⟩
          simp only [isMk, hf, Bool.and_false]
    · have hd2 : decide ((i : Int) ≤ hi) = false := by simpa using h200
      simp only [hd2, Bool.false_eq_true, if_false]
      have hn : decide ((s.size : Int) ≤ hi) = false := by simp; omega
      rw [l1In_eq]
      simp only [Option.bind_some, isMk, hn, Bool.and_false, Bool.false_and]
theorem l2Marks_eq (s : ByteArray) (hs : s.size ≤ 1048576) (lo hi : Int) (k : Nat) (hk : 2 * s.size + 1 < k) : spec_l2Marks.f k s lo hi = some (isMk s lo hi) := by
  unfold spec_l2Marks.f
  exact l2Marks_l0 s hs lo hi s.size k 0 (by omega) (by omega) hk (by simp)
theorem areMarks_eq (s : ByteArray) (hs : s.size ≤ 1048576) (lo hi : Int) : impl_areMarks.f s lo hi = some (isMk s lo hi) := by
  unfold impl_areMarks.f
  rw [in_eq]
  simp only [Option.bind_some]
  by_cases h : (decide (lo ≤ (s.size : Int)) && decide ((s.size : Int) ≤ hi)) = true
  · rw [if_pos h]
    unfold strings_Trim.f
    rw [if_pos (by omega), if_pos (by decide), if_pos (by decide)]
    simp only [Option.bind_some]
    rw [toList_nil]
    have e : (Lib.trimS s.data.toList [46, 45]).isEmpty = s.data.toList.all dotDash := by
      rw [Bool.eq_iff_iff, List.isEmpty_iff, trimS_nil]
      have : (fun x => [46, 45].contains x) = dotDash := by
        funext x
        simp [dotDash, List.contains_eq_mem]
        rfl
      rw [this]
    show some (Lib.trimS s.data.toList [46, 45]).isEmpty = _
    rw [e]
    simp only [isMk, h, Bool.true_and]
  · rw [if_neg h]
    simp only [isMk, (Bool.not_eq_true _).mp h, Bool.false_and]
theorem in_eq' (a b c : Int) : impl_in.f a b c = some (decide (b ≤ a) && decide (a ≤ c)) := in_eq a b c
/-! lists of texts: their sizes, copies, comparisons -/
theorem rdS_get (xs : List ByteArray) (i : Nat) (h : i < xs.length) : rdOf ByteArray.empty xs (i : Int) = xs[i] := by simp [rdOf, h]
theorem toList_inj (a b : ByteArray) : a.toList = b.toList ↔ a = b := by
  rw [ByteArray.toList_eq, ByteArray.toList_eq]
  constructor
  · intro h; exact ByteArray.ext (Array.toList_inj.1 h)
  · rintro rfl; rfl
/-! a line, as both sides ask for it -/
def onOff (b : UInt8) : Bool := b == 48 || b == 49
def isLn (s : ByteArray) : Bool := decide (s.size ≤ 200) && s.data.toList.all onOff
theorem implLine_eq (s : ByteArray) : impl_IsLine.f s = some (isLn s) := by
  unfold impl_IsLine.f
  by_cases h : (s.size : Int) ≤ 200
  · rw [if_pos h]
    unfold strings_Trim.f
    rw [if_pos (by omega), if_pos (by decide), if_pos (by decide)]
    simp only [Option.bind_some]
    rw [toList_nil]
    have e : (Lib.trimS s.data.toList [48, 49]).isEmpty = s.data.toList.all onOff := by
      rw [Bool.eq_iff_iff, List.isEmpty_iff, trimS_nil]
      have : (fun x => [48, 49].contains x) = onOff := by
        funext x
        simp [onOff, List.contains_eq_mem]
        rfl
      rw [this]
    show some (Lib.trimS s.data.toList [48, 49]).isEmpty = _
    rw [e]
    simp [isLn, show s.size ≤ 200 by omega]
  · rw [if_neg h]; simp [isLn, show ¬ s.size ≤ 200 by omega]
/-! a text as a list of bytes, and as a list of numbers -/
def txt (l : List UInt8) : ByteArray := ⟨l.toArray⟩
theorem txt_data (l : List UInt8) : (txt l).data.toList = l := rfl
theorem txt_size (l : List UInt8) : (txt l).size = l.length := by rw [← size_data, txt_data]
theorem txt_of (s : ByteArray) : txt s.data.toList = s := rfl
theorem txt_app (l m : List UInt8) : txt l ++ txt m = txt (l ++ m) := by
  apply ByteArray.ext
  apply Array.toList_inj.1
  rw [ByteArray.data_append, Array.toList_append]
  rfl
/-! a text's pieces between the bytes that part them -/
theorem ext_list (s : ByteArray) (i : Nat) : (s.extract i s.size).data.toList = s.data.toList.drop i := by
  rw [ByteArray.data_extract, Array.toList_extract, List.extract_eq_take_drop, List.take_of_length_le]
  have := size_data s
  rw [List.length_drop]; omega
theorem indexByte_is (l : List UInt8) (c : UInt8) (m : Nat) (h1 : l[m]? = some c) (h2 : ∀ k, k < m → l[k]? ≠ some c) : Lib.indexByte l c = (m : Int) := by
  have hge := Lib.indexByte_ge l c
  by_cases hn : Lib.indexByte l c = -1
  · exact absurd h1 (Lib.indexByte_none hn m)
  · obtain ⟨o, ho⟩ : ∃ o : Nat, Lib.indexByte l c = (o : Int) := ⟨(Lib.indexByte l c).toNat, by omega⟩
    obtain ⟨a1, a2⟩ := Lib.indexByte_some ho
    have : o = m := by
      rcases Nat.lt_trichotomy o m with h | h | h
      · exact absurd a1 (h2 o h)
      · exact h
      · exact absurd h1 (a2 m h)
    rw [ho, this]
theorem indexByte_not (l : List UInt8) (c : UInt8) (h2 : ∀ k : Nat, l[k]? ≠ some c) : Lib.indexByte l c = -1 := by
  have hge := Lib.indexByte_ge l c
  by_cases hn : Lib.indexByte l c = -1
  · exact hn
  · obtain ⟨o, ho⟩ : ∃ o : Nat, Lib.indexByte l c = (o : Int) := ⟨(Lib.indexByte l c).toNat, by omega⟩
    exact absurd (Lib.indexByte_some ho).1 (h2 o)
/-- the pieces -/
def pieces (s : ByteArray) (c : UInt8) : List ByteArray := Lib.splitB ⟨#[c]⟩ 0 (Lib.countB s ⟨#[c]⟩) s
theorem pieces_end (s : ByteArray) (c : UInt8) (i : Nat) (h : ∀ k, i ≤ k → s.data.toList[k]? ≠ some c) : pieces (s.extract i s.size) c = [s.extract i s.size] := by
  unfold pieces
  refine Lib.splitB_miss _ _ _ _ ?_
  rw [strings_Split.idx]
  refine indexByte_not _ _ fun k => ?_
  rw [ext_list, List.getElem?_drop]
  exact h _ (by omega)
theorem pieces_hit (s : ByteArray) (c : UInt8) (i j : Nat) (hij : i ≤ j) (hj : j < s.size) (h1 : s.data.toList[j]? = some c) (h2 : ∀ k, i ≤ k → k < j → s.data.toList[k]? ≠ some c) :
    pieces (s.extract i s.size) c = s.extract i j :: pieces (s.extract (j + 1) s.size) c := by
  have hi : Lib.indexB (s.extract i s.size) ⟨#[c]⟩ = ((j - i : Nat) : Int) := by
    rw [strings_Split.idx]
    refine indexByte_is _ _ _ ?_ fun k hk => ?_
    · rw [ext_list, List.getElem?_drop, show i + (j - i) = j by omega]; exact h1
    · rw [ext_list, List.getElem?_drop]; exact h2 _ (by omega) (by omega)
  have hz : (s.extract i s.size).size = s.size - i := by rw [ByteArray.size_extract, Nat.min_self]
  have e1 : (s.extract i s.size).extract (j - i + (⟨#[c]⟩ : ByteArray).size) (s.extract i s.size).size = s.extract (j + 1) s.size := by
    rw [ByteArray.extract_extract, hz]
    show s.extract (i + (j - i + 1)) (min (i + (s.size - i)) s.size) = _
    rw [show i + (j - i + 1) = j + 1 by omega, show min (i + (s.size - i)) s.size = s.size by omega]
  have e2 : (s.extract i s.size).extract 0 (j - i + 0) = s.extract i j := by
    rw [ByteArray.extract_extract, show i + 0 = i by omega, show min (i + (j - i + 0)) s.size = j by omega]
  unfold pieces
  rw [Lib.countB_hit (s.extract i s.size) (⟨#[c]⟩ : ByteArray) (j - i) (Nat.le_refl 1) hi, e1, Nat.add_comm, Lib.splitB_hit _ _ _ _ _ hi, e1, e2]
theorem getL (s : ByteArray) (j : Nat) (h : j < s.size) : s.data.toList[j]? = some (s.data.toList[j]'(by rw [size_data]; exact h)) := List.getElem?_eq_getElem _
theorem l1Split_l0 (s : ByteArray) (hs : s.size ≤ 1048576) (c : UInt8) (d : Nat) : ∀ (k i j : Nat) (x : List ByteArray), i ≤ j → j ≤ s.size → s.size - j = d → d < k → x.length ≤ j → (∀ m, i ≤ m → m < j → s.data.toList[m]? ≠ some c) →
    spec_l1Split.l0 k s (c.toNat : Int) x (i : Int) (j : Int) = some (x ++ pieces (s.extract i s.size) c) := by
  have hsz := size_data s
  induction d with
  | zero =>
    intro k i j x hij hj hd hk hx hn
    obtain ⟨k, rfl⟩ := pred_of_lt hk
    simp only [spec_l1Split.l0]
    rw [if_neg (by omega), if_pos (by omega), if_pos (by omega), if_pos (by omega), pieces_end s c i (fun m hm => by
      by_cases h : m < j
      · exact hn m hm h
      · rw [List.getElem?_eq_none (by omega)]; exact fun h => by cases h), Int.toNat_natCast]
  | succ d ih =>
    intro k i j x hij hj hd hk hx hn
    obtain ⟨k, rfl⟩ := pred_of_lt hk
    have c1 : (j : Int) < (s.size : Int) := by omega
    have c2 : (0 : Int) ≤ (j : Int) := by omega
    have e1 : wrap64 ((j : Int) + 1) = ((j + 1 : Nat) : Int) := by rw [wr (by omega) (by omega)]; omega
    simp only [spec_l1Split.l0, c1, c2, if_true, e1, Int.toNat_natCast]
    by_cases hc : bt s (j : Int) = (c.toNat : Int)
    · rw [if_pos hc, if_pos (by omega), if_pos (by omega), if_pos (by omega), if_pos (by omega)]
      rw [bt_is s j (by omega) c _ rfl] at hc
      rw [ih k (j + 1) (j + 1) _ (by omega) (by omega) (by omega) (by omega) (by simp; omega) (fun m h1 h2 => by omega),
        pieces_hit s c i j hij (by omega) (by rw [getL s j (by omega), hc]) hn, List.append_assoc]
      rfl
    · rw [if_neg hc]
      rw [bt_is s j (by omega) c _ rfl] at hc
      exact ih k i (j + 1) x (by omega) (by omega) (by omega) (by omega) (by omega) (fun m h1 h2 => by
        by_cases h : m = j
        · subst h; rw [getL s m (by omega)]; exact fun h => hc (Option.some.inj h)
        · exact hn m h1 (by omega))
theorem whole (s : ByteArray) : s.extract 0 s.size = s := ByteArray.extract_zero_size
theorem l1Split_eq (s : ByteArray) (hs : s.size ≤ 1048576) (c : UInt8) (k : Nat) (hk : s.size < k) : spec_l1Split.f k s (c.toNat : Int) = some (pieces s c) := by
  unfold spec_l1Split.f
  have := l1Split_l0 s hs c s.size k 0 0 [] (by omega) (by omega) (by omega) hk (by simp) (fun m h1 h2 => by omega)
  rw [whole] at this
  simpa using this
theorem iSplit_eq (s : ByteArray) (hs : s.size ≤ 1048576) (c : UInt8) : strings_Split.f s ⟨#[c]⟩ = some (pieces s c) := by
  show (if s.size < 4294967281 then some (Lib.splitB ⟨#[c]⟩ 0 (Lib.countB s ⟨#[c]⟩) s) else none) = _
  rw [if_pos (by omega)]; rfl
theorem pieces_len (s : ByteArray) (c : UInt8) : (pieces s c).length ≤ s.size + 1 := by
  unfold pieces
  have := Lib.countB_le (⟨#[c]⟩ : ByteArray) (Nat.le_refl 1) s.size s (Nat.le_refl _)
  have := Lib.splitB_all (⟨#[c]⟩ : ByteArray) (Nat.le_refl 1) 0 _ s rfl
  omega
theorem one_byte (a : ByteArray) (h : (a.size : Int) = 1) : ∃ c : UInt8, a = ⟨#[c]⟩ := by
  obtain ⟨⟨l⟩⟩ := a
  match l, h with
  | [c], _ => exact ⟨c, rfl⟩
/-! a signal, as both sides ask for it -/
theorem pieces_step (s : ByteArray) (c : UInt8) : pieces s c = [s] ∨ ∃ o : Nat, o < s.size ∧ pieces s c = s.extract 0 o :: pieces (s.extract (o + 1) s.size) c := by
  have hsz := size_data s
  have hge := Lib.indexByte_ge s.data.toList c
  by_cases hn : Lib.indexByte s.data.toList c = -1
  · refine Or.inl (Lib.splitB_miss _ _ _ _ ?_)
    rw [strings_Split.idx]; exact hn
  · obtain ⟨o, ho⟩ : ∃ o : Nat, Lib.indexByte s.data.toList c = (o : Int) := ⟨(Lib.indexByte s.data.toList c).toNat, by omega⟩
    have h1 := (Lib.indexByte_some ho).1
    have hlt : o < s.size := by rw [← hsz]; exact (List.getElem?_eq_some_iff.1 h1).1
    have hi : Lib.indexB s ⟨#[c]⟩ = (o : Int) := by rw [strings_Split.idx]; exact ho
    refine Or.inr ⟨o, hlt, ?_⟩
    unfold pieces
    rw [Lib.countB_hit s (⟨#[c]⟩ : ByteArray) o (Nat.le_refl 1) hi, Nat.add_comm, Lib.splitB_hit _ _ _ _ _ hi]
    rfl
theorem pieces_sum (c : UInt8) : ∀ (n : Nat) (s : ByteArray), s.size ≤ n → ((pieces s c).map fun p => p.size + 1).sum = s.size + 1 := by
  intro n
  induction n with
  | zero =>
    intro s hs
    rcases pieces_step s c with h | ⟨o, ho, h⟩
    · rw [h]; simp
    · omega
  | succ n ih =>
    intro s hs
    rcases pieces_step s c with h | ⟨o, ho, h⟩
    · rw [h]; simp
    · rw [h, List.map_cons, List.sum_cons, ih (s.extract (o + 1) s.size) (by rw [ByteArray.size_extract]; omega), ByteArray.size_extract, ByteArray.size_extract]
      omega
theorem mem_le_sum (f : ByteArray → Nat) : ∀ (l : List ByteArray) (p : ByteArray), p ∈ l → f p ≤ (l.map f).sum
  | [], _, h => by cases h
  | a :: l, p, h => by
    rw [List.map_cons, List.sum_cons]
    rcases List.mem_cons.1 h with h | h
    · rw [h]; omega
    · have := mem_le_sum f l p h; omega
theorem piece_size (s : ByteArray) (c : UInt8) (p : ByteArray) (h : p ∈ pieces s c) : p.size ≤ s.size := by
  have h1 := mem_le_sum (fun p => p.size + 1) _ p h
  rw [pieces_sum c s.size s (Nat.le_refl _)] at h1
  omega
def wordsL (s : ByteArray) : List (List ByteArray) := (pieces s 47).map fun w => pieces w 32
theorem l2Words_l0 (P : List ByteArray) (hP : P.length ≤ 1048577) (hs : ∀ p ∈ P, p.size ≤ 1048576) (d : Nat) : ∀ (k i : Nat), i ≤ P.length → P.length - i = d → d + 1048577 < k →
    spec_l2Words.l0 k ((P.take i).map fun w => pieces w 32) P (i : Int) = some (P.map fun w => pieces w 32) := by
  induction d with
  | zero =>
    intro k i hi hd hk
    obtain ⟨k, rfl⟩ := pred_of_lt hk
    simp only [spec_l2Words.l0]
    rw [if_neg (by omega), List.take_of_length_le (by omega)]
  | succ d ih =>
    intro k i hi hd hk
    obtain ⟨k, rfl⟩ := pred_of_lt hk
    have hlt : i < P.length := by omega
    obtain ⟨p, hp, hget, hsn⟩ : ∃ p : ByteArray, p.size ≤ 1048576 ∧ rdOf ByteArray.empty P (i : Int) = p ∧ (P.take (i + 1)).map (fun w => pieces w 32) = (P.take i).map (fun w => pieces w 32) ++ [pieces p 32] :=
      ⟨P[i], hs _ (List.getElem_mem hlt), rdS_get P i hlt, by rw [List.take_succ_eq_append_getElem hlt, List.map_append]; rfl⟩
    have n := ih k (i + 1) hlt (by rw [Nat.sub_add_eq, hd]; rfl) (by omega)
    have hsp := l1Split_eq p hp 32 k (by omega)
    have h32 : (((32 : UInt8).toNat : Nat) : Int) = 32 := rfl
    rw [h32] at hsp
    have hln : ((P.take i).map fun w => pieces w 32).length < 5864062014805 := by rw [List.length_map, List.length_take]; omega
    have c1 : (i : Int) < (P.length : Int) := by omega
    have c2 : (0 : Int) ≤ (i : Int) := by omega
    have e1 : wrap64 ((i : Int) + 1) = ((i + 1 : Nat) : Int) := by rw [wr (by omega) (by omega)]; omega
    simp only [spec_l2Words.l0, c1, c2, if_true, hget, hsp, Option.bind_some, hln, e1]
    rw [← hsn]; exact n
theorem l2Words_eq (s : ByteArray) (hs : s.size ≤ 1048576) (k : Nat) (hk : 2097200 ≤ k) : spec_l2Words.f k s = some (wordsL s) := by
  unfold spec_l2Words.f
  have h47 : (((47 : UInt8).toNat : Nat) : Int) = 47 := rfl
  have hsp := l1Split_eq s hs 47 k (by omega)
  rw [h47] at hsp
  rw [hsp]
  simp only [Option.bind_some]
  have hl := pieces_len s 47
  exact l2Words_l0 (pieces s 47) (by omega) (fun p hp => by have := piece_size s 47 p hp; omega) (pieces s 47).length k 0 (by omega) (by omega) (by omega)
theorem lettersOf_l0 (P : List ByteArray) (hP : P.length ≤ 1048577) (hs : ∀ p ∈ P, p.size ≤ 1048576) (d : Nat) : ∀ (k i : Nat), i ≤ P.length → P.length - i = d → d < k →
    impl_lettersOf.l0 k ((P.take i).map fun w => pieces w 32) P (P.length : Int) (i : Int) = some (P.map fun w => pieces w 32) := by
  induction d with
  | zero =>
    intro k i hi hd hk
    obtain ⟨k, rfl⟩ := pred_of_lt hk
    simp only [impl_lettersOf.l0]
    rw [if_neg (by omega), List.take_of_length_le (by omega)]
  | succ d ih =>
    intro k i hi hd hk
    obtain ⟨k, rfl⟩ := pred_of_lt hk
    have hlt : i < P.length := by omega
    obtain ⟨p, hp, hget, hsn⟩ : ∃ p : ByteArray, p.size ≤ 1048576 ∧ rdOf ByteArray.empty P (i : Int) = p ∧ (P.take (i + 1)).map (fun w => pieces w 32) = (P.take i).map (fun w => pieces w 32) ++ [pieces p 32] :=
      ⟨P[i], hs _ (List.getElem_mem hlt), rdS_get P i hlt, by rw [List.take_succ_eq_append_getElem hlt, List.map_append]; rfl⟩
    have n := ih k (i + 1) hlt (by rw [Nat.sub_add_eq, hd]; rfl) (by omega)
    have hsp := iSplit_eq p hp 32
    have hln : ((P.take i).map fun w => pieces w 32).length < 5864062014805 := by rw [List.length_map, List.length_take]; omega
    have c1 : (i : Int) < (P.length : Int) := by omega
    have c2 : (0 : Int) ≤ (i : Int) := by omega
    have e1 : wrap64 ((i : Int) + 1) = ((i + 1 : Nat) : Int) := by rw [wr (by omega) (by omega)]; omega
    simp only [impl_lettersOf.l0, c1, c2, if_true, hget, hsp, Option.bind_some, hln, e1]
    rw [← hsn]; exact n
theorem isNil (s : ByteArray) : (s.toList = ([] : List UInt8)) ↔ s.size = 0 := by
  rw [ByteArray.toList_eq, ← size_data s]
  exact List.length_eq_zero_iff.symm
def wordsI (s : ByteArray) : List (List ByteArray) := if s.size = 0 then [] else wordsL s
theorem lettersOf_eq (s : ByteArray) (hs : s.size ≤ 1048576) (k : Nat) (hk : 1048580 ≤ k) : impl_lettersOf.f k s = some (wordsI s) := by
  unfold impl_lettersOf.f wordsI
  simp only [Option.bind_some, isNil]
  by_cases h : s.size = 0
  · rw [if_pos h, if_pos h]
  · rw [if_neg h, if_neg h, iSplit_eq s hs 47]
    simp only [Option.bind_some]
    have hl := pieces_len s 47
    exact lettersOf_l0 (pieces s 47) (by omega) (fun p hp => by have := piece_size s 47 p hp; omega) (pieces s 47).length k 0 (by omega) (by omega) (by omega)
/-- every letter is marks; and how many letters and breaks there are -/
def okL (w : List ByteArray) : Bool := w.all fun s => isMk s 1 5
def okW (W : List (List ByteArray)) : Bool := W.all okL
def cntW (W : List (List ByteArray)) : Nat := (W.map fun w => w.length).sum
theorem cntW_cons (w : List ByteArray) (W : List (List ByteArray)) : cntW (w :: W) = w.length + cntW W := by simp [cntW]
theorem rdL_get (W : List (List ByteArray)) (i : Nat) (h : i < W.length) : rd_L1 W (i : Int) = W[i] := by simp [rd_L1, h]
theorem sSig_l1 (W : List (List ByteArray)) (i : Nat) (hi : i < W.length) (hWl : W.length ≤ 1048577) (w : List ByteArray) (hw : rd_L1 W (i : Int) = w) (hwl : w.length ≤ 1048577) (hws : ∀ s ∈ w, s.size ≤ 1048576) (x4 : Int) (h0 : 0 ≤ x4) (h4 : x4 ≤ 1099511627776) (q : Nat) (hq : 2097160 ≤ q) (d : Nat) : ∀ (m j : Nat), m = q + d + 1 → j ≤ w.length → w.length - j = d →
    spec_l2Signal.l1 m W x4 (i : Int) (j : Int) = if okL (w.drop j) = true then spec_l2Signal.l0 q W (x4 + (w.length : Int) + 1) ((i + 1 : Nat) : Int) else some false := by
  have ci1 : (i : Int) < (W.length : Int) := by omega
  have ci0 : (0 : Int) ≤ (i : Int) := by omega
  have ex : wrap64 (wrap64 (x4 + (w.length : Int)) + 1) = x4 + (w.length : Int) + 1 := by rw [wr (i := x4 + (w.length : Int)) (by omega) (by omega), wr (by omega) (by omega)]
  have ei : wrap64 ((i : Int) + 1) = ((i + 1 : Nat) : Int) := by clear ex; rw [wr (by omega) (by omega)]; omega
  induction d with
  | zero =>
    intro m j hm hj hd
    subst hm
    have hjl : j = w.length := by clear ei ex; omega
    have cj : ¬ (j : Int) < (w.length : Int) := by clear ei ex; omega
    simp only [spec_l2Signal.l1, Nat.add_zero, ci0, ci1, if_true, hw, cj, if_false, ei, ex]
    rw [hjl, List.drop_length, if_pos (show okL [] = true from rfl)]
  | succ d ih =>
    intro m j hm hj hd
    obtain ⟨m, rfl⟩ : ∃ m', m = m' + 1 := ⟨q + d + 1, by clear ei ex ih; omega⟩
    have hmq : 2097160 ≤ m := by clear ei ex ih; omega
    have hlt : j < w.length := by clear ei ex ih; omega
    obtain ⟨s, hs, hget, hdrop⟩ : ∃ s : ByteArray, s.size ≤ 1048576 ∧ rdOf ByteArray.empty w (j : Int) = s ∧ okL (w.drop j) = (isMk s 1 5 && okL (w.drop (j + 1))) := ⟨w[j], hws _ (List.getElem_mem hlt), rdS_get w j hlt, by rw [List.drop_eq_getElem_cons hlt]; rfl⟩
    have n := ih m (j + 1) (Nat.succ.inj hm) hlt (by rw [Nat.sub_add_eq, hd]; rfl)
    have c1 : (j : Int) < (w.length : Int) := by clear ei ex ih n; omega
    have c2 : (0 : Int) ≤ (j : Int) := by clear ei ex ih n; omega
    have hmk := l2Marks_eq s hs 1 5 m (by clear ei ex ih n; omega)
    have e1 : wrap64 ((j : Int) + 1) = ((j + 1 : Nat) : Int) := by clear ei ex ih n; rw [wr (by omega) (by omega)]; omega
    simp only [spec_l2Signal.l1, ci0, ci1, c1, c2, if_true, hw, hget, hmk, Option.bind_some, e1, hdrop]
    by_cases hmk2 : isMk s 1 5 = true
    · rw [if_pos hmk2, n, hmk2, Bool.true_and]
    · rw [if_neg hmk2, (Bool.not_eq_true _).mp hmk2, Bool.false_and, if_neg (by decide)]
theorem iSig_l1 (W : List (List ByteArray)) (i : Nat) (hi : i < W.length) (hWl : W.length ≤ 1048577) (w : List ByteArray) (hwl : w.length ≤ 1048577) (hws : ∀ s ∈ w, s.size ≤ 1048576) (x4 : Int) (q : Nat) (d : Nat) : ∀ (m j : Nat), m = q + d + 1 → j ≤ w.length → w.length - j = d →
    impl_isSignal.l1 m x4 W (W.length : Int) (i : Int) w (w.length : Int) (j : Int) = if okL (w.drop j) = true then impl_isSignal.l0 q x4 W (W.length : Int) ((i + 1 : Nat) : Int) else some false := by
  have ei : wrap64 ((i : Int) + 1) = ((i + 1 : Nat) : Int) := by rw [wr (by omega) (by omega)]; omega
  induction d with
  | zero =>
    intro m j hm hj hd
    subst hm
    have hjl : j = w.length := by clear ei; omega
    have cj : ¬ (j : Int) < (w.length : Int) := by clear ei; omega
    simp only [impl_isSignal.l1, Nat.add_zero, cj, if_false, ei]
    rw [hjl, List.drop_length, if_pos (show okL [] = true from rfl)]
  | succ d ih =>
    intro m j hm hj hd
    obtain ⟨m, rfl⟩ : ∃ m', m = m' + 1 := ⟨q + d + 1, by clear ei ih; omega⟩
    have hlt : j < w.length := by clear ei ih; omega
    obtain ⟨s, hs, hget, hdrop⟩ : ∃ s : ByteArray, s.size ≤ 1048576 ∧ rdOf ByteArray.empty w (j : Int) = s ∧ okL (w.drop j) = (isMk s 1 5 && okL (w.drop (j + 1))) := ⟨w[j], hws _ (List.getElem_mem hlt), rdS_get w j hlt, by rw [List.drop_eq_getElem_cons hlt]; rfl⟩
    have n := ih m (j + 1) (Nat.succ.inj hm) hlt (by rw [Nat.sub_add_eq, hd]; rfl)
    have c1 : (j : Int) < (w.length : Int) := by clear ei ih n; omega
    have c2 : (0 : Int) ≤ (j : Int) := by clear ei ih n; omega
    have hmk : impl_isLetterMarks.f s = some (isMk s 1 5) := by
      unfold impl_isLetterMarks.f
      rw [areMarks_eq s hs 1 5]; rfl
    have e1 : wrap64 ((j : Int) + 1) = ((j + 1 : Nat) : Int) := by clear ei ih n; rw [wr (by omega) (by omega)]; omega
    simp only [impl_isSignal.l1, c1, c2, if_true, hget, hmk, Option.bind_some, e1, hdrop]
    by_cases hmk2 : isMk s 1 5 = true
    · rw [if_pos hmk2, n, hmk2, Bool.true_and]
    · rw [if_neg hmk2, (Bool.not_eq_true _).mp hmk2, Bool.false_and, if_neg (by decide)]
def fuW (W : List (List ByteArray)) : Nat := (W.map fun w => w.length + 2).sum
theorem fuW_eq (W : List (List ByteArray)) : fuW W = cntW W + 2 * W.length := by
  induction W with
  | nil => rfl
  | cons w W ih => simp only [fuW, cntW, List.map_cons, List.sum_cons, List.length_cons] at ih ⊢; omega
theorem sig_l0 (W : List (List ByteArray)) (hWl : W.length ≤ 1048577) (hW : ∀ w ∈ W, w.length ≤ 1048577 ∧ ∀ s ∈ w, s.size ≤ 1048576) (q0 : Nat) (hq0 : 2097160 ≤ q0) (d : Nat) : ∀ (m i : Nat) (x4 y4 : Int), m = q0 + fuW (W.drop i) + 1 → i ≤ W.length → W.length - i = d → 0 ≤ x4 → x4 + (cntW (W.drop i) : Int) + ((W.drop i).length : Int) ≤ 1099511627776 → -1 ≤ y4 → y4 + (cntW (W.drop i) : Int) ≤ 1099511627776 →
    spec_l2Signal.l0 m W x4 (i : Int) = some (okW (W.drop i) && decide (x4 + (cntW (W.drop i) : Int) + ((W.drop i).length : Int) - 1 ≤ 12)) ∧
    impl_isSignal.l0 m y4 W (W.length : Int) (i : Int) = some (okW (W.drop i) && decide (y4 + (cntW (W.drop i) : Int) ≤ 12)) := by
  induction d with
  | zero =>
    intro m i x4 y4 hm hi hd h0 hx hy0 hy
    subst hm
    have hil : i = W.length := by omega
    have hdr : W.drop i = [] := by rw [hil, List.drop_length]
    rw [hdr] at hx hy ⊢
    have hc : cntW [] = 0 := rfl
    have hl : ([] : List (List ByteArray)).length = 0 := rfl
    have ho : okW [] = true := rfl
    rw [hc, hl] at hx ⊢
    rw [hc] at hy
    have ci : ¬ (i : Int) < (W.length : Int) := by omega
    simp only [spec_l2Signal.l0, impl_isSignal.l0, ci, if_false, ho, Bool.true_and]
    rw [wr (by omega) (by omega)]
    refine ⟨congrArg some (decide_eq_decide.2 ?_), congrArg some (decide_eq_decide.2 ?_)⟩ <;> omega
  | succ d ih =>
    intro m i x4 y4 hm hi hd h0 hx hy0 hy
    have hlt : i < W.length := by omega
    obtain ⟨w, hwl, hws, hget, hdr⟩ : ∃ w : List ByteArray, w.length ≤ 1048577 ∧ (∀ s ∈ w, s.size ≤ 1048576) ∧ rd_L1 W (i : Int) = w ∧ W.drop i = w :: W.drop (i + 1) := ⟨W[i], (hW _ (List.getElem_mem hlt)).1, (hW _ (List.getElem_mem hlt)).2, rdL_get W i hlt, List.drop_eq_getElem_cons hlt⟩
    rw [hdr] at hm hx hy ⊢
    rw [cntW_cons, List.length_cons] at hx
    rw [cntW_cons] at hy
    have hfu : fuW (w :: W.drop (i + 1)) = w.length + 2 + fuW (W.drop (i + 1)) := by simp [fuW]
    rw [hfu] at hm
    obtain ⟨q, hq⟩ : ∃ q, q = q0 + fuW (W.drop (i + 1)) + 1 := ⟨_, rfl⟩
    obtain ⟨m, rfl⟩ : ∃ m', m = m' + 1 := ⟨q + w.length + 1, by omega⟩
    have s := sSig_l1 W i hlt hWl w hget hwl hws x4 h0 (by omega) q (by omega) w.length m 0 (by omega) (by omega) (by omega)
    have t := iSig_l1 W i hlt hWl w hwl hws (y4 + (w.length : Int)) q w.length m 0 (by omega) (by omega) (by omega)
    have n := ih q (i + 1) (x4 + (w.length : Int) + 1) (y4 + (w.length : Int)) hq hlt (by omega) (by omega) (by omega) (by omega) (by omega)
    rw [List.drop_zero, n.1] at s
    rw [List.drop_zero, n.2] at t
    have ci : (i : Int) < (W.length : Int) := by omega
    have c0 : (0 : Int) ≤ (i : Int) := by omega
    have ey : wrap64 (y4 + (w.length : Int)) = y4 + (w.length : Int) := by rw [wr (by omega) (by omega)]
    have hz : ((0 : Nat) : Int) = 0 := rfl
    rw [hz] at s t
    have hok : okW (w :: W.drop (i + 1)) = (okL w && okW (W.drop (i + 1))) := rfl
    rw [hok, cntW_cons, List.length_cons]
    simp only [spec_l2Signal.l0, impl_isSignal.l0, ci, c0, if_true, hget, ey, s, t]
    clear ey s t n ih
    by_cases ho : okL w = true
    · rw [if_pos ho, if_pos ho, ho, Bool.true_and]
      refine ⟨congrArg some (congrArg (okW (W.drop (i + 1)) && ·) (decide_eq_decide.2 ?_)), congrArg some (congrArg (okW (W.drop (i + 1)) && ·) (decide_eq_decide.2 ?_))⟩ <;> omega
    · rw [if_neg ho, if_neg ho, (Bool.not_eq_true _).mp ho]
      exact ⟨rfl, rfl⟩
theorem wordsL_cnt (s : ByteArray) : cntW (wordsL s) ≤ s.size + 1 := by
  have h := pieces_sum 47 s.size s (Nat.le_refl _)
  unfold wordsL cntW
  rw [List.map_map]
  have : ∀ P : List ByteArray, (P.map ((fun w => w.length) ∘ fun w => pieces w 32)).sum ≤ (P.map fun p => p.size + 1).sum := by
    intro P
    induction P with
    | nil => exact Nat.le_refl _
    | cons p P ih =>
      have := pieces_len p 32
      simp only [List.map_cons, List.sum_cons, Function.comp] at ih ⊢; omega
  have := this (pieces s 47)
  omega
theorem okL_size (w : List ByteArray) (h : okL w = true) : (w.map fun p => p.size + 1).sum ≤ 6 * w.length := by
  induction w with
  | nil => exact Nat.le_refl _
  | cons a w ih =>
    simp only [okL, List.all_cons, Bool.and_eq_true] at h ih
    have h1 := ih h.2
    have h2 : a.size ≤ 5 := by
      have := h.1
      simp only [isMk, Bool.and_eq_true, decide_eq_true_eq] at this
      omega
    simp only [List.map_cons, List.sum_cons, List.length_cons]; omega
theorem okW_size (s : ByteArray) (h : okW (wordsL s) = true) : s.size + 1 ≤ 6 * cntW (wordsL s) := by
  have h47 := pieces_sum 47 s.size s (Nat.le_refl _)
  have : ∀ P : List ByteArray, okW (P.map fun w => pieces w 32) = true → (P.map fun p => p.size + 1).sum ≤ 6 * cntW (P.map fun w => pieces w 32) := by
    intro P
    induction P with
    | nil => intro _; exact Nat.le_refl _
    | cons p P ih =>
      intro ho
      simp only [okW, List.map_cons, List.all_cons, Bool.and_eq_true] at ho ih
      have h1 := ih ho.2
      have h2 := okL_size _ ho.1
      rw [pieces_sum 32 p.size p (Nat.le_refl _)] at h2
      rw [List.map_cons, List.map_cons, List.sum_cons, cntW_cons]; omega
  have := this (pieces s 47) h
  unfold wordsL; omega
def isSig (s : ByteArray) : Bool := if s.size = 0 then true else if s.size > 72 then false else okW (wordsL s) && decide ((cntW (wordsL s) : Int) + ((wordsL s).length : Int) - 1 ≤ 12)
theorem wordsL_bounds (s : ByteArray) (hs : s.size ≤ 1048576) : (wordsL s).length ≤ 1048577 ∧ ∀ w ∈ wordsL s, w.length ≤ 1048577 ∧ ∀ x ∈ w, x.size ≤ 1048576 := by
  refine ⟨?_, fun w hw => ?_⟩
  · have := pieces_len s 47
    unfold wordsL; rw [List.length_map]; omega
  · unfold wordsL at hw
    obtain ⟨p, hp, rfl⟩ := List.mem_map.1 hw
    have h1 := piece_size s 47 p hp
    have h2 := pieces_len p 32
    exact ⟨by omega, fun x hx => by have := piece_size p 32 x hx; omega⟩
theorem isSig_both (s : ByteArray) (hs : s.size ≤ 1048576) (k : Nat) (hk : 8388640 ≤ k) : spec_l2Signal.f k s = some (isSig s) ∧ impl_isSignal.f k s = some (isSig s) := by
  obtain ⟨b1, b2⟩ := wordsL_bounds s hs
  have hcnt := wordsL_cnt s
  have hfu := fuW_eq (wordsL s)
  unfold spec_l2Signal.f impl_isSignal.f isSig
  rw [lettersOf_eq s hs k (by omega)]
  simp only [isNil, Option.bind_some]
  by_cases h0 : s.size = 0
  · rw [if_pos h0, if_pos h0]
    refine ⟨rfl, ?_⟩
    have e : wordsI s = [] := by unfold wordsI; rw [if_pos h0]
    obtain ⟨k, rfl⟩ : ∃ m, k = m + 1 := ⟨k - 1, by omega⟩
    rw [e]
    simp only [impl_isSignal.l0, List.length_nil]
    rw [if_neg (by omega)]
    have hw : wrap64 (((0 : Nat) : Int) - 1) ≤ 12 := by rw [wr (by omega) (by omega)]; omega
    exact congrArg some (decide_eq_true hw)
  · have e : wordsI s = wordsL s := by unfold wordsI; rw [if_neg h0]
    have hl1 : 1 ≤ (wordsL s).length := by
      unfold wordsL
      rw [List.length_map]
      rcases pieces_step s 47 with h | ⟨o, ho, h⟩
      · rw [h]; simp
      · rw [h]; simp
    have both := sig_l0 (wordsL s) b1 b2 (k - fuW (wordsL s) - 1) (by omega) (wordsL s).length k 0 0 (((wordsL s).length : Int) - 1) (by rw [List.drop_zero]; omega) (by omega) (by omega) (by omega) (by rw [List.drop_zero]; omega) (by omega) (by rw [List.drop_zero]; omega)
    rw [List.drop_zero] at both
    have hz : ((0 : Nat) : Int) = 0 := rfl
    rw [hz, Int.zero_add] at both
    rw [if_neg h0, if_neg h0, e, wr (by omega) (by omega), both.2]
    have hcomm : decide (((wordsL s).length : Int) - 1 + (cntW (wordsL s) : Int) ≤ 12) = decide ((cntW (wordsL s) : Int) + ((wordsL s).length : Int) - 1 ≤ 12) := decide_eq_decide.2 (by omega)
    rw [hcomm]
    by_cases h72 : s.size > 72
    · have h72' : (s.size : Int) > 72 := by omega
      rw [if_pos h72', if_pos h72]
      refine ⟨rfl, congrArg some ?_⟩
      by_cases ho : okW (wordsL s) = true
      · have := okW_size s ho
        rw [ho, Bool.true_and, decide_eq_false_iff_not]; omega
      · rw [(Bool.not_eq_true _).mp ho, Bool.false_and]
    · have h72' : ¬ (s.size : Int) > 72 := by omega
      rw [if_neg h72', if_neg h72, l2Words_eq s hs k (by omega)]
      simp only [Option.bind_some]
      exact ⟨both.1, trivial⟩
/-! the line of a signal, as both sides lay it -/
def mkc (c : UInt8) : List UInt8 := if c = 46 then [49] else [49, 49, 49]
def isSep (c : UInt8) : Bool := c == 32 || c == 47
def gp : Bool → List UInt8 → List UInt8
  | _, [] => []
  | st, c :: cs => if c = 32 then [48, 48, 48] ++ gp true cs else if c = 47 then [48, 48, 48, 48, 48, 48, 48] ++ gp true cs else ((if st then [] else [48]) ++ mkc c) ++ gp false cs
def stAt (s : ByteArray) (i : Nat) : Bool := if i = 0 then true else isSep (s.data.toList.getD (i - 1) 0)
theorem mkc_len (c : UInt8) : 1 ≤ (mkc c).length ∧ (mkc c).length ≤ 3 := by unfold mkc; split <;> simp
theorem l4Of_j1 (s : ByteArray) (k i : Nat) (hi : i < s.size) (c : UInt8) (hc : s.data.toList[i]'(by rw [size_data]; exact hi) = c) (acc : List UInt8) (ha : acc.length ≤ 100000000) (b : Bool) :
    spec_l4Of.j1 (k + 1) s (txt acc) (i : Int) b = spec_l4Of.l0 k s (txt (acc ++ ((if b then [48] else []) ++ mkc c))) (wrap64 ((i : Int) + 1)) := by
  have hz := txt_size acc
  have c2 : (0 : Int) ≤ (i : Int) := by omega
  have c3 : (i : Int) < (s.size : Int) := by omega
  have hz1 : (txt acc ++ (⟨#[48]⟩ : ByteArray)) = txt (acc ++ [48]) := txt_app acc [48]
  have hz2 := txt_size (acc ++ [48])
  rw [List.length_append] at hz2
  have hl1 : ([48] : List UInt8).length = 1 := rfl
  have b46 : (bt s (i : Int) = 46) ↔ c = 46 := by rw [bt_is s i hi 46 46 (by decide), hc]
  simp only [spec_l4Of.j1]
  cases b with
  | true =>
    rw [if_pos rfl, if_pos (by omega), if_pos c2, if_pos c3, hz1]
    by_cases h : c = 46
    · rw [if_pos (b46.2 h), if_pos (by omega), show (⟨#[49]⟩ : ByteArray) = txt [49] from rfl, txt_app]
      unfold mkc; rw [if_pos h, if_pos rfl, List.append_assoc]
    · rw [if_neg (fun e => h (b46.1 e)), if_pos (by omega), show (⟨#[49, 49, 49]⟩ : ByteArray) = txt [49, 49, 49] from rfl, txt_app]
      unfold mkc; rw [if_neg h, if_pos rfl, List.append_assoc]
  | false =>
    rw [if_neg (by decide), if_pos c2, if_pos c3]
    by_cases h : c = 46
    · rw [if_pos (b46.2 h), if_pos (by omega), show (⟨#[49]⟩ : ByteArray) = txt [49] from rfl, txt_app]
      unfold mkc; rw [if_pos h, if_neg (by decide), List.nil_append]
    · rw [if_neg (fun e => h (b46.1 e)), if_pos (by omega), show (⟨#[49, 49, 49]⟩ : ByteArray) = txt [49, 49, 49] from rfl, txt_app]
      unfold mkc; rw [if_neg h, if_neg (by decide), List.nil_append]
theorem l4Of_l0 (s : ByteArray) (hs : s.size ≤ 1048576) (d : Nat) : ∀ (k i : Nat) (acc : List UInt8), i ≤ s.size → s.size - i = d → 2 * d < k → acc.length ≤ 7 * i →
    spec_l4Of.l0 k s (txt acc) (i : Int) = some (txt (acc ++ gp (stAt s i) (s.data.toList.drop i))) := by
  have hsz := size_data s
  induction d with
  | zero =>
    intro k i acc hi hd hk ha
    obtain ⟨k, rfl⟩ := pred_of_lt hk
    rw [spec_l4Of.l0, if_neg (by omega), List.drop_eq_nil_of_le (by omega)]
    simp only [gp, List.append_nil]
  | succ d ih =>
    intro k i acc hi hd hk ha
    obtain ⟨k, rfl⟩ := pred_of_lt hk
    obtain ⟨k, rfl⟩ : ∃ m, k = m + 1 := ⟨k - 1, by omega⟩
    have hlt : i < s.data.toList.length := by omega
    have hi' : i < s.size := by omega
    have hz := txt_size acc
    have c1 : (i : Int) < (s.size : Int) := by omega
    have c2 : (0 : Int) ≤ (i : Int) := by omega
    have e : wrap64 ((i : Int) + 1) = ((i + 1 : Nat) : Int) := by rw [wr (by omega) (by omega)]; rfl
    obtain ⟨c, hc⟩ : ∃ c, s.data.toList[i] = c := ⟨_, rfl⟩
    have hdr : s.data.toList.drop i = c :: s.data.toList.drop (i + 1) := by rw [List.drop_eq_getElem_cons hlt, hc]
    have hst : stAt s (i + 1) = isSep c := by
      unfold stAt
      rw [if_neg (by omega), show i + 1 - 1 = i by omega, List.getD_eq_getElem?_getD, List.getElem?_eq_getElem hlt, hc]; rfl
    have b32 : (bt s (i : Int) = 32) ↔ c = 32 := by rw [bt_is s i hi' 32 32 (by decide), hc]
    have b47 : (bt s (i : Int) = 47) ↔ c = 47 := by rw [bt_is s i hi' 47 47 (by decide), hc]
    rw [hdr, spec_l4Of.l0, if_pos c1, if_pos c2]
    by_cases h32 : c = 32
    · rw [if_pos (b32.2 h32), if_pos (by omega), e, show (⟨#[48, 48, 48]⟩ : ByteArray) = txt [48, 48, 48] from rfl, txt_app,
        ih (k + 1) (i + 1) (acc ++ [48, 48, 48]) (by omega) (by omega) (by omega) (by rw [List.length_append]; simp only [List.length_cons, List.length_nil]; omega), hst]
      simp only [gp, h32, if_true, List.append_assoc]; rfl
    · rw [if_neg (fun x => h32 (b32.1 x))]
      by_cases h47 : c = 47
      · rw [if_pos (b47.2 h47), if_pos (by omega), e, show (⟨#[48, 48, 48, 48, 48, 48, 48]⟩ : ByteArray) = txt [48, 48, 48, 48, 48, 48, 48] from rfl, txt_app,
          ih (k + 1) (i + 1) (acc ++ [48, 48, 48, 48, 48, 48, 48]) (by omega) (by omega) (by omega) (by rw [List.length_append]; simp only [List.length_cons, List.length_nil]; omega), hst]
        simp only [gp, h32, h47, if_true, if_false, List.append_assoc]; rfl
      · rw [if_neg (fun x => h47 (b47.1 x))]
        have fin : ∀ b : Bool, b = !stAt s i → spec_l4Of.j1 (k + 1) s (txt acc) (i : Int) b = some (txt (acc ++ gp (stAt s i) (c :: s.data.toList.drop (i + 1)))) := by
          intro b hb
          have hm := mkc_len c
          rw [l4Of_j1 s k i hi' c hc acc (by omega) b, e, ih k (i + 1) _ (by omega) (by omega) (by omega) (by
            rw [List.length_append, List.length_append]
            have : (if b = true then ([48] : List UInt8) else []).length ≤ 1 := by split <;> simp
            omega), hst]
          have hs2 : isSep c = false := by
            unfold isSep
            simp [h32, h47]
          rw [hs2, hb]
          simp only [gp, h32, h47, if_false, List.append_assoc]
          cases stAt s i <;> simp
        by_cases h0 : i = 0
        · subst h0
          rw [if_neg (by omega)]
          exact fin false rfl
        · have e1 : wrap64 ((i : Int) - 1) = ((i - 1 : Nat) : Int) := by rw [wr (by omega) (by omega)]; omega
          have hp : i - 1 < s.data.toList.length := by omega
          have p32 := bt_is s (i - 1) (by omega) 32 32 (by decide)
          have p47 := bt_is s (i - 1) (by omega) 47 47 (by decide)
          have hst0 : stAt s i = isSep (s.data.toList[i - 1]) := by
            unfold stAt
            rw [if_neg h0, List.getD_eq_getElem?_getD, List.getElem?_eq_getElem hp]; rfl
          rw [if_pos (by omega), e1, if_pos (by omega), if_pos (by omega)]
          by_cases q32 : bt s ((i - 1 : Nat) : Int) = 32
          · rw [if_pos q32]
            refine fin false ?_
            rw [hst0, p32.1 q32]; rfl
          · rw [if_neg q32]
            refine fin _ ?_
            rw [hst0]
            by_cases q47 : bt s ((i - 1 : Nat) : Int) = 47
            · rw [p47.1 q47, q47]; rfl
            · have n32 : ¬ s.data.toList[i - 1] = 32 := fun x => q32 (p32.2 x)
              have n47 : ¬ s.data.toList[i - 1] = 47 := fun x => q47 (p47.2 x)
              have : (bt s ((i - 1 : Nat) : Int) != 47) = true := by simp [q47]
              rw [this]
              obtain ⟨p, hp2⟩ : ∃ p, s.data.toList[i - 1] = p := ⟨_, rfl⟩
              rw [hp2] at n32 n47 ⊢
              unfold isSep
              simp [n32, n47]
theorem l4Of_eq (s : ByteArray) (hs : s.size ≤ 1048576) (k : Nat) (hk : 2097160 ≤ k) : spec_l4Of.f k s = some (txt (gp true s.data.toList)) := by
  unfold spec_l4Of.f
  have h := l4Of_l0 s hs s.size k 0 [] (by omega) (by omega) (by omega) (by simp)
  rw [List.drop_zero, List.nil_append] at h
  exact h
/-- joined lists -/
theorem jcons (x : List UInt8) (P : List (List UInt8)) (sep : List UInt8) (h : P ≠ []) : Lib.join (x :: P) sep = x ++ (sep ++ Lib.join P sep) := by
  unfold Lib.join
  cases P with
  | nil => exact absurd rfl h
  | cons y P => simp [List.intercalate, List.intersperse]
theorem join_len (sep : List UInt8) (B : Nat) : ∀ L : List (List UInt8), (∀ x ∈ L, x.length ≤ B) → (Lib.join L sep).length ≤ L.length * (B + sep.length)
  | [], _ => by simp [Lib.join_nil]
  | [x], h => by
    rw [Lib.join_one]
    have := h x (by simp)
    simp only [List.length_cons, List.length_nil, Nat.zero_add, Nat.one_mul]; omega
  | x :: y :: r, h => by
    have h1 := h x (by simp)
    have h2 := join_len sep B (y :: r) (fun z hz => h z (by simp [hz]))
    rw [jcons x (y :: r) sep (by simp), List.length_append, List.length_append, List.length_cons, Nat.succ_mul]
    omega
theorem sJoin_ok (L : List (List UInt8)) (sep : List UInt8) (hn : L.length ≤ 1000) (hx : ∀ x ∈ L, x.length ≤ 1000000) (hs : sep.length ≤ 7) : strings_Join.f (L.map txt) (txt sep) = some (txt (Lib.join L sep)) := by
  unfold strings_Join.f
  have e : (L.map txt).map (fun z => z.data.toList) = L := by
    rw [List.map_map]
    exact List.map_id _
  rw [e, txt_data, List.length_map, if_pos (by omega)]
  have h1 := join_len sep 1000000 L hx
  have h2 : L.length * (1000000 + sep.length) ≤ 1000 * 1000007 := Nat.mul_le_mul hn (by omega)
  rw [if_pos (by omega)]
  rfl
def letL (m : ByteArray) : List UInt8 := Lib.join (m.data.toList.map mkc) [48]
def wordLn (w : List ByteArray) : List UInt8 := Lib.join (w.map letL) [48, 48, 48]
def sigLn (W : List (List ByteArray)) : List UInt8 := Lib.join (W.map wordLn) [48, 48, 48, 48, 48, 48, 48]
/-- the reference's line is the joined one -/
theorem gp_app32 (r : List UInt8) : ∀ (l : List UInt8) (st : Bool), gp st (l ++ 32 :: r) = gp st l ++ ([48, 48, 48] ++ gp true r)
  | [], st => by simp [gp]
  | c :: l, st => by
    simp only [List.cons_append, gp]
    split
    · rw [gp_app32 r l true]; simp
    · split
      · rw [gp_app32 r l true]; simp
      · rw [gp_app32 r l false]; simp
theorem gp_app47 (r : List UInt8) : ∀ (l : List UInt8) (st : Bool), gp st (l ++ 47 :: r) = gp st l ++ ([48, 48, 48, 48, 48, 48, 48] ++ gp true r)
  | [], st => by simp [gp]
  | c :: l, st => by
    simp only [List.cons_append, gp]
    split
    · rw [gp_app47 r l true]; simp
    · split
      · rw [gp_app47 r l true]; simp
      · rw [gp_app47 r l false]; simp
theorem gp_join32 : ∀ L : List (List UInt8), gp true (Lib.join L [32]) = Lib.join (L.map (gp true)) [48, 48, 48]
  | [] => rfl
  | [x] => by rw [Lib.join_one, List.map_cons, List.map_nil, Lib.join_one]
  | x :: y :: r => by
    rw [jcons x (y :: r) [32] (by simp), List.map_cons, jcons (gp true x) _ _ (by simp), List.singleton_append, gp_app32, gp_join32 (y :: r)]
theorem gp_join47 : ∀ L : List (List UInt8), gp true (Lib.join L [47]) = Lib.join (L.map (gp true)) [48, 48, 48, 48, 48, 48, 48]
  | [] => rfl
  | [x] => by rw [Lib.join_one, List.map_cons, List.map_nil, Lib.join_one]
  | x :: y :: r => by
    rw [jcons x (y :: r) [47] (by simp), List.map_cons, jcons (gp true x) _ _ (by simp), List.singleton_append, gp_app47, gp_join47 (y :: r)]
theorem dd_not {c : UInt8} (h : dotDash c = true) : ¬ c = 32 ∧ ¬ c = 47 := by
  constructor
  · intro e; subst e; exact absurd h (by decide)
  · intro e; subst e; exact absurd h (by decide)
theorem gp_letter : ∀ (l : List UInt8) (c : UInt8), dotDash c = true → l.all dotDash = true → gp true (c :: l) = Lib.join ((c :: l).map mkc) [48]
  | [], c, hc, _ => by
    have h := dd_not hc
    simp only [gp, h.1, h.2, if_false, if_true, List.nil_append, List.append_nil, List.map_cons, List.map_nil, Lib.join_one]
  | d :: l, c, hc, hl => by
    simp only [List.all_cons, Bool.and_eq_true] at hl
    have h := dd_not hc
    have h' := dd_not hl.1
    have ih := gp_letter l d hl.1 hl.2
    rw [List.map_cons, jcons _ _ _ (by simp), ← ih]
    simp only [gp, h.1, h.2, h'.1, h'.2, if_false, if_true, List.nil_append, Bool.false_eq_true, List.append_assoc]
theorem gp_mk (m : ByteArray) (h : isMk m 1 5 = true) : gp true m.data.toList = letL m := by
  simp only [isMk, Bool.and_eq_true, decide_eq_true_eq] at h
  have hz := size_data m
  unfold letL
  cases hl : m.data.toList with
  | nil => rw [hl] at hz; simp at hz; omega
  | cons c l =>
    have h2 := h.2
    rw [hl, List.all_cons, Bool.and_eq_true] at h2
    exact gp_letter l c h2.1 h2.2
/-- a text is its pieces joined -/
theorem pieces_step2 (s : ByteArray) (c : UInt8) : pieces s c = [s] ∨ ∃ o : Nat, o < s.size ∧ s.data.toList[o]? = some c ∧ pieces s c = s.extract 0 o :: pieces (s.extract (o + 1) s.size) c := by
  have hsz := size_data s
  have hge := Lib.indexByte_ge s.data.toList c
  by_cases hn : Lib.indexByte s.data.toList c = -1
  · refine Or.inl (Lib.splitB_miss _ _ _ _ ?_)
    rw [strings_Split.idx]; exact hn
  · obtain ⟨o, ho⟩ : ∃ o : Nat, Lib.indexByte s.data.toList c = (o : Int) := ⟨(Lib.indexByte s.data.toList c).toNat, by omega⟩
    have h1 := (Lib.indexByte_some ho).1
    have hlt : o < s.size := by rw [← hsz]; exact (List.getElem?_eq_some_iff.1 h1).1
    have hi : Lib.indexB s ⟨#[c]⟩ = (o : Int) := by rw [strings_Split.idx]; exact ho
    refine Or.inr ⟨o, hlt, h1, ?_⟩
    unfold pieces
    rw [Lib.countB_hit s (⟨#[c]⟩ : ByteArray) o (Nat.le_refl 1) hi, Nat.add_comm, Lib.splitB_hit _ _ _ _ _ hi]
    rfl
theorem pieces_ne (s : ByteArray) (c : UInt8) : pieces s c ≠ [] := by
  rcases pieces_step2 s c with h | ⟨o, _, _, h⟩
  · rw [h]; simp
  · rw [h]; simp
theorem pieces_joined (c : UInt8) : ∀ (n : Nat) (s : ByteArray), s.size ≤ n → s.data.toList = Lib.join ((pieces s c).map fun z => z.data.toList) [c] := by
  intro n
  induction n with
  | zero =>
    intro s hs
    rcases pieces_step2 s c with h | ⟨o, ho, _, h⟩
    · rw [h, List.map_cons, List.map_nil, Lib.join_one]
    · omega
  | succ n ih =>
    intro s hs
    rcases pieces_step2 s c with h | ⟨o, ho, hc, h⟩
    · rw [h, List.map_cons, List.map_nil, Lib.join_one]
    · have hz := size_data s
      have hlt : o < s.data.toList.length := by omega
      have e0 : (s.extract 0 o).data.toList = s.data.toList.take o := by
        rw [ByteArray.data_extract, Array.toList_extract, List.extract_eq_take_drop, List.drop_zero, Nat.sub_zero]
      rw [h, List.map_cons, jcons _ _ _ (by simp [pieces_ne]), ← ih (s.extract (o + 1) s.size) (by rw [ByteArray.size_extract]; omega), e0, ext_list]
      have e1 : s.data.toList[o] = c := by rw [List.getElem?_eq_getElem hlt] at hc; exact Option.some.inj hc
      have e2 : s.data.toList.drop o = c :: s.data.toList.drop (o + 1) := by rw [List.drop_eq_getElem_cons hlt, e1]
      rw [List.singleton_append, ← e2, List.take_append_drop]
theorem gp_sig (s : ByteArray) (h : okW (wordsL s) = true) : gp true s.data.toList = sigLn (wordsL s) := by
  rw [pieces_joined 47 s.size s (Nat.le_refl _), gp_join47]
  unfold sigLn wordsL
  rw [List.map_map, List.map_map]
  congr 1
  refine List.map_congr_left fun w hw => ?_
  have hw2 : okL (pieces w 32) = true := List.all_eq_true.1 h _ (List.mem_map.2 ⟨w, hw, rfl⟩)
  simp only [Function.comp]
  rw [pieces_joined 32 w.size w (Nat.le_refl _), gp_join32]
  unfold wordLn
  rw [List.map_map]
  congr 1
  refine List.map_congr_left fun m hm => ?_
  exact gp_mk m (List.all_eq_true.1 hw2 _ hm)
/-- the program's loops -/
theorem letL_len (m : ByteArray) (h : isMk m 1 5 = true) : (letL m).length ≤ 20 := by
  simp only [isMk, Bool.and_eq_true, decide_eq_true_eq] at h
  have hz := size_data m
  unfold letL
  have := join_len [48] 3 (m.data.toList.map mkc) (fun x hx => by
    obtain ⟨c, _, rfl⟩ := List.mem_map.1 hx
    exact (mkc_len c).2)
  rw [List.length_map] at this
  have e : ([48] : List UInt8).length = 1 := rfl
  rw [e] at this
  omega
theorem look_eq (m : ByteArray) (t : Nat) (ht : t < m.size) (c : UInt8) (hc : m.data.toList[t]'(by rw [size_data]; exact ht) = c) (hd : dotDash c = true) : maplit_Look.f (bt m (t : Int)) = some (txt (mkc c)) := by
  have b46 : (bt m (t : Int) = 46) ↔ c = 46 := by rw [bt_is m t ht 46 46 (by decide), hc]
  have b45 : (bt m (t : Int) = 45) ↔ c = 45 := by rw [bt_is m t ht 45 45 (by decide), hc]
  unfold maplit_Look.f mkc
  by_cases h : c = 46
  · rw [if_pos (b46.2 h), if_pos h]; rfl
  · have h5 : c = 45 := by
      unfold dotDash at hd
      simp only [Bool.or_eq_true, beq_iff_eq] at hd
      exact hd.resolve_left h
    rw [if_neg (fun e => h (b46.1 e)), if_pos (b45.2 h5), if_neg h]; rfl
theorem lo_l2 (x3 x6 : List ByteArray) (hx6 : x6.length < 1000) (m : ByteArray) (hm : isMk m 1 5 = true) (W : List (List ByteArray)) (n i : Int) (w : List ByteArray) (wl j : Int) (q d : Nat) : ∀ (M t : Nat), M = q + d + 1 → t ≤ m.size → m.size - t = d →
    impl_lineOf.l2 M x3 x6 m ((m.data.toList.take t).map fun c => txt (mkc c)) W n i w wl j (m.size : Int) (t : Int) = impl_lineOf.l1 q x3 (x6 ++ [txt (letL m)]) W n i w wl (wrap64 (j + 1)) := by
  have hz := size_data m
  have hm2 := hm
  simp only [isMk, Bool.and_eq_true, decide_eq_true_eq] at hm2
  induction d with
  | zero =>
    intro M t hM ht hd
    subst hM
    have hj : strings_Join.f (m.data.toList.map fun c => txt (mkc c)) (⟨#[48]⟩ : ByteArray) = some (txt (letL m)) := by
      have := sJoin_ok (m.data.toList.map mkc) [48] (by rw [List.length_map]; omega) (fun x hx => by
        obtain ⟨c, _, rfl⟩ := List.mem_map.1 hx
        have := (mkc_len c).2
        omega) (by simp)
      rw [List.map_map] at this
      exact this
    simp only [impl_lineOf.l2]
    rw [if_neg (by omega), List.take_of_length_le (by omega), hj, Option.bind_some, if_pos (by omega)]
  | succ d ih =>
    intro M t hM ht hd
    obtain ⟨M, rfl⟩ : ∃ M', M = M' + 1 := ⟨q + d + 1, by omega⟩
    have hlt : t < m.data.toList.length := by omega
    obtain ⟨c, hc⟩ : ∃ c, m.data.toList[t] = c := ⟨_, rfl⟩
    have hd2 : dotDash c = true := by rw [← hc]; exact List.all_eq_true.1 hm2.2 _ (List.getElem_mem hlt)
    have e : wrap64 ((t : Int) + 1) = ((t + 1 : Nat) : Int) := by rw [wr (by omega) (by omega)]; rfl
    have e3 : ((m.data.toList.take t).map fun c => txt (mkc c)) ++ [txt (mkc c)] = (m.data.toList.take (t + 1)).map fun c => txt (mkc c) := by
      rw [List.take_succ_eq_append_getElem hlt, List.map_append, hc]; rfl
    simp only [impl_lineOf.l2]
    rw [if_pos (by omega), show maplit_Made.f = some 0 from rfl, Option.bind_some, if_pos (by omega), if_pos (by omega), look_eq m t (by omega) c hc hd2, Option.bind_some,
      if_pos (by rw [List.length_map, List.length_take]; omega), e3, e]
    exact ih M (t + 1) (by omega) (by omega) (by omega)
def fu1 (w : List ByteArray) : Nat := (w.map fun m => m.size + 2).sum
theorem lo_l1 (x3 : List ByteArray) (hx3 : x3.length < 1000) (W : List (List ByteArray)) (n i : Int) (w : List ByteArray) (hw : okL w = true) (hwl : w.length ≤ 100) (q d : Nat) : ∀ (M j : Nat), M = q + fu1 (w.drop j) + 1 → j ≤ w.length → w.length - j = d →
    impl_lineOf.l1 M x3 ((w.take j).map fun m => txt (letL m)) W n i w (w.length : Int) (j : Int) = impl_lineOf.l0 q (x3 ++ [txt (wordLn w)]) W n (wrap64 (i + 1)) := by
  induction d with
  | zero =>
    intro M j hM hj hd
    have hjl : j = w.length := by omega
    have hdr : w.drop j = [] := by rw [hjl, List.drop_length]
    rw [hdr] at hM
    obtain rfl : M = q + 1 := hM
    have hJ : strings_Join.f (w.map fun m => txt (letL m)) (⟨#[48, 48, 48]⟩ : ByteArray) = some (txt (wordLn w)) := by
      have := sJoin_ok (w.map letL) [48, 48, 48] (by rw [List.length_map]; omega) (fun x hx => by
        obtain ⟨m, hm, rfl⟩ := List.mem_map.1 hx
        have := letL_len m (List.all_eq_true.1 hw _ hm)
        omega) (by simp)
      rw [List.map_map] at this
      exact this
    simp only [impl_lineOf.l1]
    rw [if_neg (by omega), List.take_of_length_le (by omega), hJ, Option.bind_some, if_pos (by omega)]
  | succ d ih =>
    intro M j hM hj hd
    have hlt : j < w.length := by omega
    have hdr : w.drop j = w[j] :: w.drop (j + 1) := List.drop_eq_getElem_cons hlt
    obtain ⟨m, hm⟩ : ∃ m, w[j] = m := ⟨_, rfl⟩
    have hmk : isMk m 1 5 = true := by rw [← hm]; exact List.all_eq_true.1 hw _ (List.getElem_mem hlt)
    have hfu : fu1 (m :: w.drop (j + 1)) = (m.size + 2) + fu1 (w.drop (j + 1)) := by simp [fu1]
    rw [hdr, hm, hfu] at hM
    obtain ⟨M, rfl⟩ : ∃ M', M = M' + 1 := ⟨q + ((m.size + 2) + fu1 (w.drop (j + 1))), by omega⟩
    have e3 : ((w.take j).map fun m => txt (letL m)) ++ [txt (letL m)] = (w.take (j + 1)).map fun m => txt (letL m) := by
      rw [List.take_succ_eq_append_getElem hlt, List.map_append, hm]; rfl
    simp only [impl_lineOf.l1]
    rw [if_pos (by omega), if_pos (by omega), if_pos (by omega), rdS_get w j hlt, hm]
    have h2 := lo_l2 x3 ((w.take j).map fun m => txt (letL m)) (by rw [List.length_map, List.length_take]; omega) m hmk W n i w (w.length : Int) (j : Int) (q + fu1 (w.drop (j + 1)) + 1) m.size M 0 (by omega) (by omega) (by omega)
    rw [List.take_zero, List.map_nil] at h2
    have hz0 : ((0 : Nat) : Int) = 0 := rfl
    rw [hz0] at h2
    have n := ih (q + fu1 (w.drop (j + 1)) + 1) (j + 1) rfl (by omega) (by omega)
    rw [h2, show wrap64 ((j : Int) + 1) = ((j + 1 : Nat) : Int) from by clear hM h2 n ih hfu hdr e3; rw [wr (by omega) (by omega)]; rfl, e3]
    exact n
def fu0 (W : List (List ByteArray)) : Nat := (W.map fun w => fu1 w + 2).sum
theorem lo_l0 (W : List (List ByteArray)) (hWl : W.length ≤ 100) (hW : ∀ w ∈ W, w.length ≤ 100 ∧ okL w = true) (q0 d : Nat) : ∀ (M i : Nat), M = q0 + fu0 (W.drop i) + 1 → i ≤ W.length → W.length - i = d →
    impl_lineOf.l0 M ((W.take i).map fun w => txt (wordLn w)) W (W.length : Int) (i : Int) = some (txt (sigLn W)) := by
  induction d with
  | zero =>
    intro M i hM hi hd
    have hil : i = W.length := by omega
    have hdr : W.drop i = [] := by rw [hil, List.drop_length]
    rw [hdr] at hM
    obtain rfl : M = q0 + 1 := hM
    have hJ : strings_Join.f (W.map fun w => txt (wordLn w)) (⟨#[48, 48, 48, 48, 48, 48, 48]⟩ : ByteArray) = some (txt (sigLn W)) := by
      have := sJoin_ok (W.map wordLn) [48, 48, 48, 48, 48, 48, 48] (by rw [List.length_map]; omega) (fun x hx => by
        obtain ⟨w, hw, rfl⟩ := List.mem_map.1 hx
        have h1 := hW w hw
        have h2 := join_len [48, 48, 48] 20 (w.map letL) (fun x hx => by
          obtain ⟨m, hm, rfl⟩ := List.mem_map.1 hx
          exact letL_len m (List.all_eq_true.1 h1.2 _ hm))
        rw [List.length_map] at h2
        have e3 : ([48, 48, 48] : List UInt8).length = 3 := rfl
        rw [e3] at h2
        unfold wordLn
        omega) (by simp)
      rw [List.map_map] at this
      exact this
    simp only [impl_lineOf.l0]
    rw [if_neg (by omega), List.take_of_length_le (by omega), hJ, Option.bind_some]
  | succ d ih =>
    intro M i hM hi hd
    have hlt : i < W.length := by omega
    have hdr : W.drop i = W[i] :: W.drop (i + 1) := List.drop_eq_getElem_cons hlt
    obtain ⟨w, hw⟩ : ∃ w, W[i] = w := ⟨_, rfl⟩
    have hok := hW w (by rw [← hw]; exact List.getElem_mem hlt)
    have hfu : fu0 (w :: W.drop (i + 1)) = (fu1 w + 2) + fu0 (W.drop (i + 1)) := by simp [fu0]
    rw [hdr, hw, hfu] at hM
    obtain ⟨M, rfl⟩ : ∃ M', M = M' + 1 := ⟨q0 + ((fu1 w + 2) + fu0 (W.drop (i + 1))), by omega⟩
    have e3 : ((W.take i).map fun w => txt (wordLn w)) ++ [txt (wordLn w)] = (W.take (i + 1)).map fun w => txt (wordLn w) := by
      rw [List.take_succ_eq_append_getElem hlt, List.map_append, hw]; rfl
    simp only [impl_lineOf.l0]
    rw [if_pos (by omega), if_pos (by omega), if_pos (by omega), rdL_get W i hlt, hw]
    have h1 := lo_l1 ((W.take i).map fun w => txt (wordLn w)) (by rw [List.length_map, List.length_take]; omega) W (W.length : Int) (i : Int) w hok.2 hok.1 (q0 + fu0 (W.drop (i + 1)) + 1) w.length M 0 (by rw [List.drop_zero]; omega) (by omega) (by omega)
    rw [List.take_zero, List.map_nil] at h1
    have hz0 : ((0 : Nat) : Int) = 0 := rfl
    rw [hz0] at h1
    have n := ih (q0 + fu0 (W.drop (i + 1)) + 1) (i + 1) rfl (by omega) (by omega)
    rw [h1, show wrap64 ((i : Int) + 1) = ((i + 1 : Nat) : Int) from by clear hM h1 n ih hfu hdr e3; rw [wr (by omega) (by omega)]; rfl, e3]
    exact n
theorem fu1_le (w : List ByteArray) (h : okL w = true) : fu1 w ≤ 7 * w.length := by
  induction w with
  | nil => simp [fu1]
  | cons m w ih =>
    simp only [okL, List.all_cons, Bool.and_eq_true] at h
    have h1 := h.1
    simp only [isMk, Bool.and_eq_true, decide_eq_true_eq] at h1
    have h2 := ih h.2
    simp only [fu1, List.map_cons, List.sum_cons, List.length_cons] at h2 ⊢
    omega
theorem fu0_le (W : List (List ByteArray)) (h : okW W = true) : fu0 W ≤ 7 * cntW W + 2 * W.length := by
  induction W with
  | nil => simp [fu0]
  | cons w W ih =>
    simp only [okW, List.all_cons, Bool.and_eq_true] at h
    have h1 := fu1_le w h.1
    have h2 := ih h.2
    rw [cntW_cons]
    simp only [fu0, List.map_cons, List.sum_cons, List.length_cons] at h2 ⊢
    omega
theorem sig_small (s : ByteArray) (h0 : s.size ≠ 0) (h : isSig s = true) : okW (wordsL s) = true ∧ cntW (wordsL s) + (wordsL s).length ≤ 13 := by
  unfold isSig at h
  rw [if_neg h0] at h
  by_cases h72 : s.size > 72
  · rw [if_pos h72] at h; cases h
  · rw [if_neg h72] at h
    simp only [Bool.and_eq_true, decide_eq_true_eq] at h
    exact ⟨h.1, by omega⟩
theorem cnt_mem : ∀ (W : List (List ByteArray)) (w : List ByteArray), w ∈ W → w.length ≤ cntW W
  | [], _, h => by cases h
  | a :: W, w, h => by
    rw [cntW_cons]
    rcases List.mem_cons.1 h with h | h
    · rw [h]; omega
    · have := cnt_mem W w h; omega
theorem lineOf_eq (s : ByteArray) (hs : s.size ≤ 1048576) (h : isSig s = true) (k : Nat) (hk : 2097160 ≤ k) : impl_lineOf.f k s = some (txt (gp true s.data.toList)) := by
  unfold impl_lineOf.f
  rw [lettersOf_eq s hs k (by omega), Option.bind_some]
  by_cases h0 : s.size = 0
  · have w0 : wordsI s = [] := by unfold wordsI; rw [if_pos h0]
    have hl : s.data.toList = [] := List.eq_nil_of_length_eq_zero (by rw [size_data]; exact h0)
    rw [w0, hl]
    exact lo_l0 [] (by simp) (by simp) (k - 1) 0 k 0 (by simp [fu0]; omega) (by simp) (by simp)
  · have w0 : wordsI s = wordsL s := by unfold wordsI; rw [if_neg h0]
    obtain ⟨ok, sm⟩ := sig_small s h0 h
    have hf := fu0_le (wordsL s) ok
    rw [w0, gp_sig s ok]
    exact lo_l0 (wordsL s) (by omega) (fun w hw => ⟨by have := cnt_mem _ w hw; omega, List.all_eq_true.1 ok w hw⟩) (k - fu0 (wordsL s) - 1) (wordsL s).length k 0 (by rw [List.drop_zero]; omega) (by omega) (by omega)
/-! how long marks take, told alike by both sides -/
def dashes (s : ByteArray) (i : Nat) : Nat := (s.data.toList.take i).count 45
theorem dashes_succ (s : ByteArray) (i : Nat) (h : i < s.size) : dashes s (i + 1) = dashes s i + (if bt s (i : Int) = 45 then 1 else 0) := by
  have hsz := size_data s
  have hlt : i < s.data.toList.length := by omega
  unfold dashes
  rw [List.take_succ_eq_append_getElem hlt, List.count_append]
  by_cases h1 : bt s (i : Int) = 45
  · rw [if_pos h1]
    rw [bt_is s i (by omega) 45 45 (by decide)] at h1
    rw [h1]; rfl
  · rw [if_neg h1]
    rw [bt_is s i (by omega) 45 45 (by decide)] at h1
    rw [List.count_singleton, if_neg (by rw [beq_iff_eq]; exact h1)]
theorem dashes_le (s : ByteArray) (i : Nat) : dashes s i ≤ i := by
  unfold dashes
  exact Nat.le_trans List.count_le_length (by rw [List.length_take]; omega)
theorem l2Time_l0 (s : ByteArray) (hs : s.size ≤ 1048576) (d : Nat) (m : Int) (hm : 0 ≤ m ∧ m ≤ 1048576) : ∀ (k i : Nat), i ≤ s.size → s.size - i = d → d < k →
    spec_l2Time.l0 k s (m + (i : Int) + 2 * (dashes s i : Int)) (i : Int) = some (m + (s.size : Int) + 2 * (dashes s s.size : Int)) := by
  induction d with
  | zero =>
    intro k i hi hd hk
    obtain ⟨k, rfl⟩ := pred_of_lt hk
    simp only [spec_l2Time.l0]; rw [if_neg (by omega), show i = s.size by omega]
  | succ d ih =>
    intro k i hi hd hk
    obtain ⟨k, rfl⟩ := pred_of_lt hk
    have c1 : (i : Int) < (s.size : Int) := by omega
    have c2 : (0 : Int) ≤ (i : Int) := by omega
    have hle := dashes_le s i
    have e : wrap64 ((i : Int) + 1) = ((i + 1 : Nat) : Int) := by rw [wr (by omega) (by omega)]; omega
    have hs' := dashes_succ s i (by omega)
    have e2 : wrap64 (m + (i : Int) + 2 * (dashes s i : Int) + 1) = m + (i : Int) + 2 * (dashes s i : Int) + 1 := by rw [wr (by omega) (by omega)]
    have e3 : wrap64 (m + (i : Int) + 2 * (dashes s i : Int) + 1 + 2) = m + (i : Int) + 2 * (dashes s i : Int) + 1 + 2 := by rw [wr (by omega) (by omega)]
    have n := ih k (i + 1) (by omega) (by omega) (by omega)
    simp only [spec_l2Time.l0, c1, c2, if_true, e, e2, e3]
    by_cases h45 : bt s (i : Int) = 45
    · rw [if_pos h45] at hs' ⊢
      rw [← n]; congr 1; rw [hs']; omega
    · rw [if_neg h45] at hs' ⊢
      rw [← n]; congr 1; rw [hs']; omega
theorem l2Time_eq (s : ByteArray) (hs : s.size ≤ 1048576) (h1 : 1 ≤ s.size) (k : Nat) (hk : s.size < k) : spec_l2Time.f k s = some (2 * (s.size : Int) - 1 + 2 * (dashes s s.size : Int)) := by
  unfold spec_l2Time.f spec_l1Most.f
  rw [wr (by omega) (by omega)]
  have := l2Time_l0 s hs s.size ((s.size : Int) - 1) (by omega) k 0 (by omega) (by omega) hk
  simp only [dashes, List.take_zero, List.count_nil, Int.natCast_zero, Int.add_zero, Int.mul_zero] at this
  by_cases h : (0 : Int) > (s.size : Int) - 1
  · omega
  · rw [if_neg h]
    simp only [Option.bind_some]
    rw [this]; unfold dashes; congr 1; omega
/-! the time of letters in words, as the reference adds it up -/
def tm (s : ByteArray) : Int := 2 * (s.size : Int) - 1 + 2 * (dashes s s.size : Int)
theorem tm_le (s : ByteArray) (h : isMk s 1 5 = true) : 1 ≤ s.size ∧ s.size ≤ 5 ∧ 0 ≤ tm s ∧ tm s ≤ 19 := by
  simp only [isMk, Bool.and_eq_true, decide_eq_true_eq] at h
  have hd := dashes_le s s.size
  unfold tm
  omega
def tw : Nat → List ByteArray → Int
  | _, [] => 0
  | j, a :: t => (if j = 0 then 0 else 3) + tm a + tw (j + 1) t
theorem tw_le : ∀ (w : List ByteArray) (j : Nat), okL w = true → 0 ≤ tw j w ∧ tw j w ≤ 22 * (w.length : Int)
  | [], _, _ => ⟨Int.le_refl _, Int.le_refl _⟩
  | a :: t, j, h => by
    simp only [okL, List.all_cons, Bool.and_eq_true] at h
    have h1 := tw_le t (j + 1) h.2
    have h2 := tm_le a h.1
    simp only [tw, List.length_cons]
    split <;> omega
def tW : Nat → List (List ByteArray) → Int
  | _, [] => 0
  | i, w :: V => (if i = 0 then 0 else 7) + tw 0 w + tW (i + 1) V
theorem sT_l1 (W : List (List ByteArray)) (i : Nat) (hi : i < W.length) (hWl : W.length ≤ 100) (w : List ByteArray) (hw : rd_L1 W (i : Int) = w) (hwl : w.length ≤ 100) (hok : okL w = true) (q : Nat) (hq : 10 ≤ q) (d : Nat) : ∀ (m j : Nat) (x : Int), m = q + d + 1 → j ≤ w.length → w.length - j = d → 0 ≤ x → x + 22 * (d : Int) ≤ 1000000 →
    spec_l2TimeOf.l1 m x W (i : Int) (j : Int) = spec_l2TimeOf.l0 q (x + tw j (w.drop j)) W ((i + 1 : Nat) : Int) := by
  have ci1 : (i : Int) < (W.length : Int) := by omega
  have ci0 : (0 : Int) ≤ (i : Int) := by omega
  have ei : wrap64 ((i : Int) + 1) = ((i + 1 : Nat) : Int) := by rw [wr (by omega) (by omega)]; omega
  induction d with
  | zero =>
    intro m j x hm hj hd hx hx2
    subst hm
    have hjl : j = w.length := by clear ei; omega
    have cj : ¬ (j : Int) < (w.length : Int) := by clear ei; omega
    simp only [spec_l2TimeOf.l1, Nat.add_zero, ci0, ci1, if_true, hw, cj, if_false, ei]
    rw [hjl, List.drop_length]
    simp only [tw, Int.add_zero]
  | succ d ih =>
    intro m j x hm hj hd hx hx2
    obtain ⟨m, rfl⟩ : ∃ m', m = m' + 1 := ⟨q + d + 1, by clear ei ih; omega⟩
    have hmq : 10 < m := by clear ei ih; omega
    have hlt : j < w.length := by clear ei ih; omega
    obtain ⟨s, hmk, hget, hdrop⟩ : ∃ s : ByteArray, isMk s 1 5 = true ∧ rdOf ByteArray.empty w (j : Int) = s ∧ tw j (w.drop j) = (if j = 0 then 0 else 3) + tm s + tw (j + 1) (w.drop (j + 1)) := ⟨w[j], List.all_eq_true.1 hok _ (List.getElem_mem hlt), rdS_get w j hlt, by rw [List.drop_eq_getElem_cons hlt]; rfl⟩
    have htm := tm_le s hmk
    have hT : spec_l2Time.f m s = some (tm s) := l2Time_eq s (by clear ei ih; omega) htm.1 m (by clear ei ih; omega)
    have c1 : (j : Int) < (w.length : Int) := by clear ei ih; omega
    have c2 : (0 : Int) ≤ (j : Int) := by clear ei ih; omega
    have e1 : wrap64 ((j : Int) + 1) = ((j + 1 : Nat) : Int) := by clear ei ih; rw [wr (by omega) (by omega)]; omega
    have n := fun y => ih m (j + 1) y (Nat.succ.inj hm) hlt (by rw [Nat.sub_add_eq, hd]; rfl)
    rw [hdrop]
    simp only [spec_l2TimeOf.l1, ci0, ci1, c1, c2, if_true, hw, hget, hT, Option.bind_some, e1]
    clear e1 ei ih
    by_cases h0 : (j : Int) > 0
    · rw [if_pos h0, if_neg (by omega), wr (i := x + 3) (by clear n; omega) (by clear n; omega), wr (by clear n; omega) (by clear n; omega), n _ (by clear n; omega) (by clear n; omega)]
      congr 1; clear n; omega
    · rw [if_neg h0, if_pos (by omega), wr (by clear n; omega) (by clear n; omega), n _ (by clear n; omega) (by clear n; omega)]
      congr 1; clear n; omega
def fu3 (W : List (List ByteArray)) : Nat := (W.map fun w => w.length + 3).sum
theorem fu3_eq (W : List (List ByteArray)) : fu3 W = cntW W + 3 * W.length := by
  induction W with
  | nil => rfl
  | cons w W ih => simp only [fu3, cntW, List.map_cons, List.sum_cons, List.length_cons] at ih ⊢; omega
theorem timeS_l0 (W : List (List ByteArray)) (hWl : W.length ≤ 100) (hW : ∀ w ∈ W, w.length ≤ 100 ∧ okL w = true) (q0 : Nat) (hq0 : 10 ≤ q0) (d : Nat) : ∀ (m i : Nat) (x : Int), m = q0 + fu3 (W.drop i) + 1 → i ≤ W.length → W.length - i = d → 0 ≤ x → x + 2300 * (d : Int) ≤ 500000 →
    spec_l2TimeOf.l0 m x W (i : Int) = some (x + tW i (W.drop i)) := by
  induction d with
  | zero =>
    intro m i x hm hi hd hx hx2
    subst hm
    have hil : i = W.length := by omega
    have hdr : W.drop i = [] := by rw [hil, List.drop_length]
    have ci : ¬ (i : Int) < (W.length : Int) := by omega
    simp only [spec_l2TimeOf.l0, ci, if_false, hdr, tW, Int.add_zero]
  | succ d ih =>
    intro m i x hm hi hd hx hx2
    have hlt : i < W.length := by omega
    obtain ⟨w, hwl, hok, hget, hdr⟩ : ∃ w : List ByteArray, w.length ≤ 100 ∧ okL w = true ∧ rd_L1 W (i : Int) = w ∧ W.drop i = w :: W.drop (i + 1) := ⟨W[i], (hW _ (List.getElem_mem hlt)).1, (hW _ (List.getElem_mem hlt)).2, rdL_get W i hlt, List.drop_eq_getElem_cons hlt⟩
    have hfu : fu3 (w :: W.drop (i + 1)) = w.length + 3 + fu3 (W.drop (i + 1)) := by simp [fu3]
    rw [hdr] at hm ⊢
    rw [hfu] at hm
    obtain ⟨q, hq⟩ : ∃ q, q = q0 + fu3 (W.drop (i + 1)) + 1 := ⟨_, rfl⟩
    obtain ⟨p, hp⟩ : ∃ p, p = q + w.length + 1 := ⟨_, rfl⟩
    obtain rfl : m = p + 1 + 1 := by omega
    have htw := tw_le w 0 hok
    have c1 : (i : Int) < (W.length : Int) := by omega
    have c0 : (0 : Int) ≤ (i : Int) := by omega
    have hz : ((0 : Nat) : Int) = 0 := rfl
    have s := fun y h1 h2 => sT_l1 W i hlt hWl w hget hwl hok q (by omega) w.length p 0 y hp (by omega) (by omega) h1 h2
    rw [List.drop_zero, hz] at s
    rw [spec_l2TimeOf.l0, if_pos c1, tW]
    by_cases h0 : (i : Int) > 0
    · have n := ih q (i + 1) (x + 7 + tw 0 w) hq hlt (by rw [Nat.sub_add_eq, hd]; rfl) (by omega) (by omega)
      have ea : x + ((if i = 0 then 0 else 7) + tw 0 w + tW (i + 1) (W.drop (i + 1))) = x + 7 + tw 0 w + tW (i + 1) (W.drop (i + 1)) := by rw [if_neg (by omega)]; omega
      rw [if_pos h0, wr (by omega) (by omega), spec_l2TimeOf.j1, s _ (by omega) (by omega), ea]
      exact n
    · have n := ih q (i + 1) (x + tw 0 w) hq hlt (by rw [Nat.sub_add_eq, hd]; rfl) (by omega) (by omega)
      have ea : x + ((if i = 0 then 0 else 7) + tw 0 w + tW (i + 1) (W.drop (i + 1))) = x + tw 0 w + tW (i + 1) (W.drop (i + 1)) := by rw [if_pos (by omega)]; omega
      rw [if_neg h0, spec_l2TimeOf.j1, s _ (by omega) (by omega), ea]
      exact n
/-- the line is as long as its time -/
theorem lens_mkc : ∀ l : List UInt8, l.all dotDash = true → Lib.lens (l.map mkc) = l.length + 2 * l.count 45
  | [], _ => rfl
  | c :: l, h => by
    simp only [List.all_cons, Bool.and_eq_true] at h
    have ih := lens_mkc l h.2
    have e : Lib.lens ((c :: l).map mkc) = (mkc c).length + Lib.lens (l.map mkc) := by simp [Lib.lens]
    rw [e, ih, List.length_cons, List.count_cons]
    unfold mkc
    by_cases h6 : c = 46
    · subst h6
      rw [if_pos rfl, if_neg (by decide)]
      simp only [List.length_cons, List.length_nil]; omega
    · have h5 : c = 45 := by
        have := h.1
        unfold dotDash at this
        simp only [Bool.or_eq_true, beq_iff_eq] at this
        exact this.resolve_left h6
      subst h5
      rw [if_neg (by decide), if_pos (by decide)]
      simp only [List.length_cons, List.length_nil]; omega
theorem letL_tm (m : ByteArray) (h : isMk m 1 5 = true) : ((letL m).length : Int) = tm m := by
  simp only [isMk, Bool.and_eq_true, decide_eq_true_eq] at h
  have hz := size_data m
  have hd : dashes m m.size = m.data.toList.count 45 := by
    unfold dashes
    rw [List.take_of_length_le (by omega)]
  unfold letL tm
  rw [hd]
  have hl := lens_mkc m.data.toList h.2
  cases hx : m.data.toList with
  | nil => rw [hx] at hz; simp at hz; omega
  | cons c l =>
    rw [hx] at hz hl
    rw [List.map_cons] at hl ⊢
    rw [Lib.join_length, hl, List.length_map]
    simp only [List.length_cons, List.length_nil] at hz ⊢
    omega
theorem tw_sum : ∀ (w : List ByteArray) (j : Nat), okL w = true → tw (j + 1) w = 3 * (w.length : Int) + (Lib.lens (w.map letL) : Int)
  | [], _, _ => rfl
  | a :: t, j, h => by
    simp only [okL, List.all_cons, Bool.and_eq_true] at h
    have ih := tw_sum t (j + 1) h.2
    have ha := letL_tm a h.1
    have e : Lib.lens ((a :: t).map letL) = (letL a).length + Lib.lens (t.map letL) := by simp [Lib.lens]
    rw [e]
    simp only [tw, List.length_cons]
    rw [ih, if_neg (by omega)]
    omega
theorem wordLn_tw (w : List ByteArray) (h : okL w = true) : ((wordLn w).length : Int) = tw 0 w := by
  unfold wordLn
  cases w with
  | nil => rfl
  | cons a t =>
    have h' := h
    simp only [okL, List.all_cons, Bool.and_eq_true] at h'
    have ht := tw_sum t 0 h'.2
    have ha := letL_tm a h'.1
    have e : Lib.lens (letL a :: t.map letL) = (letL a).length + Lib.lens (t.map letL) := by simp [Lib.lens]
    rw [List.map_cons, Lib.join_length, e, List.length_map]
    simp only [tw, List.length_cons, List.length_nil, if_true]
    rw [ht]
    omega
theorem tW_sum : ∀ (W : List (List ByteArray)) (j : Nat), okW W = true → tW (j + 1) W = 7 * (W.length : Int) + (Lib.lens (W.map wordLn) : Int)
  | [], _, _ => rfl
  | a :: t, j, h => by
    simp only [okW, List.all_cons, Bool.and_eq_true] at h
    have ih := tW_sum t (j + 1) h.2
    have ha := wordLn_tw a h.1
    have e : Lib.lens ((a :: t).map wordLn) = (wordLn a).length + Lib.lens (t.map wordLn) := by simp [Lib.lens]
    rw [e]
    simp only [tW, List.length_cons]
    rw [ih, if_neg (by omega)]
    omega
theorem sigLn_tW (W : List (List ByteArray)) (h : okW W = true) : ((sigLn W).length : Int) = tW 0 W := by
  unfold sigLn
  cases W with
  | nil => rfl
  | cons a t =>
    have h' := h
    simp only [okW, List.all_cons, Bool.and_eq_true] at h'
    have ht := tW_sum t 0 h'.2
    have ha := wordLn_tw a h'.1
    have e : Lib.lens (wordLn a :: t.map wordLn) = (wordLn a).length + Lib.lens (t.map wordLn) := by simp [Lib.lens]
    rw [List.map_cons, Lib.join_length, e, List.length_map]
    simp only [tW, List.length_cons, List.length_nil, if_true]
    rw [ht]
    omega
theorem gp_on : ∀ (l : List UInt8) (st : Bool), (gp st l).all onOff = true
  | [], _ => by simp [gp]
  | c :: l, st => by
    have i1 := gp_on l true
    have i2 := gp_on l false
    have hm : (mkc c).all onOff = true := by unfold mkc; split <;> decide
    simp only [gp]
    split
    · rw [List.all_append, i1]; decide
    · split
      · rw [List.all_append, i1]; decide
      · rw [List.all_append, List.all_append, i2, hm]
        cases st <;> decide
theorem timeOf_sig (s : ByteArray) (hs : s.size ≤ 1048576) (h : isSig s = true) (k : Nat) (hk : 8388700 ≤ k) : spec_l2TimeOf.f k s = some ((gp true s.data.toList).length : Int) := by
  unfold spec_l2TimeOf.f
  by_cases h0 : s.size = 0
  · have hl : s.data.toList = [] := List.eq_nil_of_length_eq_zero (by rw [size_data]; exact h0)
    rw [if_pos ((isNil s).2 h0), hl]
    rfl
  · obtain ⟨ok, sm⟩ := sig_small s h0 h
    have f1 := fu3_eq (wordsL s)
    have t := timeS_l0 (wordsL s) (by omega) (fun w hw => ⟨by have := cnt_mem _ w hw; omega, List.all_eq_true.1 ok w hw⟩) (k - fu3 (wordsL s) - 1) (by omega) (wordsL s).length k 0 0 (by rw [List.drop_zero]; omega) (by omega) (by omega) (by omega) (by omega)
    have hz : ((0 : Nat) : Int) = 0 := rfl
    rw [List.drop_zero, hz] at t
    rw [if_neg (fun e => h0 ((isNil s).1 e)), l2Words_eq s hs k (by omega), Option.bind_some, t, gp_sig s ok, sigLn_tW _ ok]
    congr 1
    omega
theorem FnExactLineOf : laws_FnExactLineOf.Pure := by
  intro s hs
  by_cases h : (s.size : Int) > 1048576
  · refine ⟨0, ?_⟩
    unfold laws_FnExactLineOf.f
    rw [if_pos h]
  · obtain ⟨M, hM⟩ : ∃ M : Nat, 8400000 ≤ M := ⟨8400000, Nat.le_refl _⟩
    refine ⟨M, ?_⟩
    obtain ⟨b1, b2⟩ := isSig_both s (by omega) M (by omega)
    unfold laws_FnExactLineOf.f spec_LineOf.f impl_LineOf.f
    rw [if_neg h, b1, b2]
    simp only [Option.bind_some]
    by_cases hl : isSig s = true
    · rw [if_pos hl, if_pos hl, timeOf_sig s (by omega) hl M (by omega), lineOf_eq s (by omega) hl M (by omega)]
      simp only [Option.bind_some]
      unfold impl_lineOr.f
      rw [implLine_eq, Option.bind_some]
      have hz := txt_size (gp true s.data.toList)
      have hon := gp_on s.data.toList true
      by_cases h2 : ((gp true s.data.toList).length : Int) > 200
      · have hn : isLn (txt (gp true s.data.toList)) = false := by
          unfold isLn
          rw [decide_eq_false (by omega), Bool.false_and]
        rw [if_pos h2, hn, if_neg (by decide)]
        simp
      · have hn : isLn (txt (gp true s.data.toList)) = true := by
          unfold isLn
          rw [txt_data, hon, decide_eq_true (by omega)]; rfl
        rw [if_neg h2, hn, if_pos rfl, l4Of_eq s (by omega) M (by omega)]
        simp
    · rw [if_neg hl, if_neg hl]
      simp

end Go.Proofs.YtbdagfdhkobbcaaDoor.Pure
