/- ReadLine of the program and of the reference answer alike at every text. -/
import Derived.Test.YtbdagfdhkobbcaaDoorHFnExactReadLinex10
namespace Go.Proofs.YtbdagfdhkobbcaaDoor.Pure
open Go.RowKit Go.Proofs.YtbdagfdhkobbcaaDoor.HFnExactReadLine Go.Proofs.YtbdagfdhkobbcaaDoorW.PrintWords Go.Proofs.YtbdagfdhkobbcaaDoorW.PrintLast
set_option linter.unusedVariables false
set_option linter.unusedSimpArgs false
set_option linter.unnecessarySimpa false

theorem wr {i : Int} (h0 : -9223372036854775808 ≤ i) (h1 : i ≤ 9223372036854775807) : wrap64 i = i := by unfold wrap64; omega
theorem rd_nat (xs : List Int) (i : Nat) : rd xs (i : Int) = xs.getD i 0 := by simp [rd]
theorem rd_get (xs : List Int) (i : Nat) (h : i < xs.length) : rd xs (i : Int) = xs[i] := by simp [rd, h]
theorem pred_of_lt {d k : Nat} (h : d < k) : ∃ m, k = m + 1 := ⟨k - 1, by omega⟩
/-! bytes of a text -/
theorem size_data (s : ByteArray) : s.data.toList.length = s.size := Array.length_toList
theorem bt_nat (s : ByteArray) (i : Nat) (h : i < s.size) : bt s (i : Int) = ((s.data.toList[i]'(by rw [size_data]; exact h)).toNat : Int) := by
  have := bt_at s (i : Int) (by simpa using h)
  rw [← this]
  rfl
theorem byte_num (b c : UInt8) (n : Nat) (hc : c.toNat = n) : ((b.toNat : Int) = (n : Int)) ↔ b = c := by
  constructor
  · intro h
    exact UInt8.toNat_inj.1 (by omega)
  · rintro rfl; omega
/-! what is left when bytes of a set are taken off both ends -/
theorem dropWhile_nil {p : UInt8 → Bool} (l : List UInt8) : l.dropWhile p = [] ↔ l.all p = true := by
  induction l with
  | nil => simp
  | cons a l ih =>
    rw [List.dropWhile_cons]
    by_cases h : p a = true
    · rw [if_pos h, ih]; simp [h]
    · rw [if_neg h]; simp [h]
theorem trimS_nil (l cs : List UInt8) : Lib.trimS l cs = [] ↔ l.all (cs.contains ·) = true := by
  unfold Lib.trimS Lib.trimLeftS Lib.trimRightS
  rw [dropWhile_nil]
  constructor
  · intro h
    by_cases hr : (l.reverse.dropWhile (cs.contains ·)) = []
    · rw [dropWhile_nil, List.all_reverse] at hr; exact hr
    · exfalso
      rw [List.all_reverse] at h
      cases hd : l.reverse.dropWhile (cs.contains ·) with
      | nil => exact hr hd
      | cons a t =>
        have ha : cs.contains a = false := by
          have := List.head?_dropWhile_not (cs.contains ·) l.reverse
          rw [hd] at this
          simpa using this
        rw [hd] at h
        simp at h
        rw [List.contains_eq_mem] at ha
        simp [h.1] at ha
  · intro h
    have : (l.reverse.dropWhile (cs.contains ·)) = [] := by
      rw [dropWhile_nil, List.all_reverse]; exact h
    rw [this]; rfl
theorem toList_nil (l : List UInt8) : ((⟨l.toArray⟩ : ByteArray).toList == ([] : List UInt8)) = l.isEmpty := by
  have : (⟨l.toArray⟩ : ByteArray).toList = l := by
    rw [ByteArray.toList_eq]
  rw [this]
  cases l <;> rfl
theorem l1In_eq (a b c : Int) : spec_l1In.f a b c = some (decide (b ≤ a) && decide (a ≤ c)) := by
  unfold spec_l1In.f
  by_cases h : a ≥ b
  · rw [if_pos h]; simp [show b ≤ a from h]
  · rw [if_neg h]; simp [show ¬ b ≤ a from h]
theorem in_eq (a b c : Int) : impl_in.f a b c = some (decide (b ≤ a) && decide (a ≤ c)) := by
  unfold impl_in.f
  by_cases h : a ≥ b
  · rw [if_pos h]; simp [show b ≤ a from h]
  · rw [if_neg h]; simp [show ¬ b ≤ a from h]
/-! marks, as both sides ask for them -/
def dotDash (b : UInt8) : Bool := b == 46 || b == 45
def isMk (s : ByteArray) (lo hi : Int) : Bool := (decide (lo ≤ (s.size : Int)) && decide ((s.size : Int) ≤ hi)) && s.data.toList.all dotDash
theorem bt_is (s : ByteArray) (i : Nat) (h : i < s.size) (c : UInt8) (n : Int) (hc : (c.toNat : Int) = n) : (bt s (i : Int) = n) ↔ (s.data.toList[i]'(by rw [size_data]; exact h)) = c := by
  rw [bt_nat s i h, ← hc]
  constructor
  · intro e; exact UInt8.toNat_inj.1 (by omega)
  · intro e; rw [e]
theorem l2Marks_l0 (s : ByteArray) (hs : s.size ≤ 1048576) (lo hi : Int) (d : Nat) : ∀ (k i : Nat), i ≤ s.size → s.size - i = d → 2 * d + 1 < k → (s.data.toList.take i).all dotDash = true → spec_l2Marks.l0 k s lo hi (i : Int) = some (isMk s lo hi) := by
  have hsz := size_data s
  induction d with
  | zero =>
    intro k i hi' hd hk ht
    obtain ⟨k, rfl⟩ := pred_of_lt hk
    obtain ⟨k, rfl⟩ : ∃ m, k = m + 1 := ⟨k - 1, by omega⟩
    simp only [spec_l2Marks.l0]; rw [if_neg (by omega)]
    simp only [spec_l2Marks.j1]; rw [if_neg (by simp), l1In_eq]
    rw [List.take_of_length_le (by omega)] at ht
    simp only [Option.bind_some, isMk, ht, Bool.and_true]
  | succ d ih =>
    intro k i hi' hd hk ht
    obtain ⟨k, rfl⟩ := pred_of_lt hk
    obtain ⟨k, rfl⟩ : ∃ m, k = m + 1 := ⟨k - 1, by omega⟩
    have c1 : (i : Int) < (s.size : Int) := by omega
    have c2 : (0 : Int) ≤ (i : Int) := by omega
    have e : wrap64 ((i : Int) + 1) = ((i + 1 : Nat) : Int) := by rw [wr (by omega) (by omega)]; omega
    simp only [spec_l2Marks.l0, c1, if_true, spec_l2Marks.j1]
    by_cases h200 : (i : Int) ≤ hi
    · have hd2 : decide ((i : Int) ≤ hi) = true := by simpa using h200
      simp only [hd2, c2, if_true, e]
      have hlt : i < s.data.toList.length := by omega
      have next : dotDash (s.data.toList[i]) = true → spec_l2Marks.l0 k s lo hi ((i + 1 : Nat) : Int) = some (isMk s lo hi) := fun hb => ih k (i + 1) (by omega) (by omega) (by omega) (by
        rw [List.take_succ_eq_append_getElem hlt, List.all_append, ht]; simp only [List.all_cons, List.all_nil, hb, Bool.and_true])
      by_cases h0 : bt s (i : Int) = 46
      · rw [if_pos h0]
        exact next (by rw [bt_is s i (by omega) 46 46 (by decide)] at h0; rw [h0]; decide)
      · rw [if_neg h0]
        by_cases h1 : bt s (i : Int) = 45
        · rw [if_pos h1]
          exact next (by rw [bt_is s i (by omega) 45 45 (by decide)] at h1; rw [h1]; decide)
        · rw [if_neg h1]
          rw [bt_is s i (by omega) 46 46 (by decide)] at h0
          rw [bt_is s i (by omega) 45 45 (by decide)] at h1
          have hm : s.data.toList[i] ∈ s.data.toList := List.getElem_mem _
          have hf : s.data.toList.all dotDash = false := by
            rw [List.all_eq_false]; exact ⟨_, hm, by simp only [dotDash, Bool.or_eq_true, beq_iff_eq, h0, h1, or_self, not_false_eq_true]⟩
          simp only [isMk, hf, Bool.and_false]
    · have hd2 : decide ((i : Int) ≤ hi) = false := by simpa using h200
      simp only [hd2, Bool.false_eq_true, if_false]
      have hn : decide ((s.size : Int) ≤ hi) = false := by simp; omega
      rw [l1In_eq]
      simp only [Option.bind_some, isMk, hn, Bool.and_false, Bool.false_and]
theorem l2Marks_eq (s : ByteArray) (hs : s.size ≤ 1048576) (lo hi : Int) (k : Nat) (hk : 2 * s.size + 1 < k) : spec_l2Marks.f k s lo hi = some (isMk s lo hi) := by
  unfold spec_l2Marks.f
  exact l2Marks_l0 s hs lo hi s.size k 0 (by omega) (by omega) hk (by simp)
theorem areMarks_eq (s : ByteArray) (hs : s.size ≤ 1048576) (lo hi : Int) : impl_areMarks.f s lo hi = some (isMk s lo hi) := by
  unfold impl_areMarks.f
  rw [in_eq]
  simp only [Option.bind_some]
  by_cases h : (decide (lo ≤ (s.size : Int)) && decide ((s.size : Int) ≤ hi)) = true
  · rw [if_pos h]
    unfold strings_Trim.f
    rw [if_pos (by omega), if_pos (by decide), if_pos (by decide)]
    simp only [Option.bind_some]
    rw [toList_nil]
    have e : (Lib.trimS s.data.toList [46, 45]).isEmpty = s.data.toList.all dotDash := by
      rw [Bool.eq_iff_iff, List.isEmpty_iff, trimS_nil]
      have : (fun x => [46, 45].contains x) = dotDash := by
        funext x
        simp [dotDash, List.contains_eq_mem]
        rfl
      rw [this]
    show some (Lib.trimS s.data.toList [46, 45]).isEmpty = _
    rw [e]
    simp only [isMk, h, Bool.true_and]
  · rw [if_neg h]
    simp only [isMk, (Bool.not_eq_true _).mp h, Bool.false_and]
theorem in_eq' (a b c : Int) : impl_in.f a b c = some (decide (b ≤ a) && decide (a ≤ c)) := in_eq a b c
/-! lists of texts: their sizes, copies, comparisons -/
theorem rdS_get (xs : List ByteArray) (i : Nat) (h : i < xs.length) : rdOf ByteArray.empty xs (i : Int) = xs[i] := by simp [rdOf, h]
theorem toList_inj (a b : ByteArray) : a.toList = b.toList ↔ a = b := by
  rw [ByteArray.toList_eq, ByteArray.toList_eq]
  constructor
  · intro h; exact ByteArray.ext (Array.toList_inj.1 h)
  · rintro rfl; rfl
/-! a line, as both sides ask for it -/
def onOff (b : UInt8) : Bool := b == 48 || b == 49
def isLn (s : ByteArray) : Bool := decide (s.size ≤ 200) && s.data.toList.all onOff
theorem l4Line_l0 (s : ByteArray) (hs : s.size ≤ 1048576) (d : Nat) : ∀ (k i : Nat), i ≤ s.size → s.size - i = d → 2 * d + 1 < k → (s.data.toList.take i).all onOff = true → spec_l4Line.l0 k s (i : Int) = some (isLn s) := by
  have hsz := size_data s
  induction d with
  | zero =>
    intro k i hi hd hk ht
    obtain ⟨k, rfl⟩ := pred_of_lt hk
    obtain ⟨k, rfl⟩ : ∃ m, k = m + 1 := ⟨k - 1, by omega⟩
    simp only [spec_l4Line.l0]; rw [if_neg (by omega)]
    simp only [spec_l4Line.j1]; rw [if_neg (by simp)]
    rw [List.take_of_length_le (by omega)] at ht
    have : decide ((s.size : Int) ≤ 200) = decide (s.size ≤ 200) := by rw [decide_eq_decide]; omega
    rw [this]; simp [isLn, ht]
  | succ d ih =>
    intro k i hi hd hk ht
    obtain ⟨k, rfl⟩ := pred_of_lt hk
    obtain ⟨k, rfl⟩ : ∃ m, k = m + 1 := ⟨k - 1, by omega⟩
    have c1 : (i : Int) < (s.size : Int) := by omega
    have c2 : (0 : Int) ≤ (i : Int) := by omega
    have e : wrap64 ((i : Int) + 1) = ((i + 1 : Nat) : Int) := by rw [wr (by omega) (by omega)]; omega
    simp only [spec_l4Line.l0, c1, if_true, spec_l4Line.j1]
    by_cases h200 : (i : Int) ≤ 200
    · have hd2 : decide ((i : Int) ≤ 200) = true := by simpa using h200
      simp only [hd2, c2, if_true, e]
      have hlt : i < s.data.toList.length := by omega
      have next : onOff (s.data.toList[i]) = true → spec_l4Line.l0 k s ((i + 1 : Nat) : Int) = some (isLn s) := fun hb => ih k (i + 1) (by omega) (by omega) (by omega) (by
        rw [List.take_succ_eq_append_getElem hlt, List.all_append, ht]; simp only [List.all_cons, List.all_nil, hb, Bool.and_true])
      by_cases h0 : bt s (i : Int) = 48
      · rw [if_pos h0]
        exact next (by rw [bt_is s i (by omega) 48 48 (by decide)] at h0; rw [h0]; decide)
      · rw [if_neg h0]
        by_cases h1 : bt s (i : Int) = 49
        · rw [if_pos h1]
          exact next (by rw [bt_is s i (by omega) 49 49 (by decide)] at h1; rw [h1]; decide)
        · rw [if_neg h1]
          rw [bt_is s i (by omega) 48 48 (by decide)] at h0
          rw [bt_is s i (by omega) 49 49 (by decide)] at h1
          have hm : s.data.toList[i] ∈ s.data.toList := List.getElem_mem _
          have hf : s.data.toList.all onOff = false := by
            rw [List.all_eq_false]; exact ⟨_, hm, by simp only [onOff, Bool.or_eq_true, beq_iff_eq, h0, h1, or_self, not_false_eq_true]⟩
          simp [isLn, hf]
    · have hd2 : decide ((i : Int) ≤ 200) = false := by simpa using h200
      simp only [hd2, Bool.false_eq_true, if_false]
      have : decide ((s.size : Int) ≤ 200) = false := by simp; omega
      rw [this]
      simp [isLn, show ¬ s.size ≤ 200 by omega]
theorem l4Line_eq (s : ByteArray) (hs : s.size ≤ 1048576) (k : Nat) (hk : 2 * s.size + 1 < k) : spec_l4Line.f k s = some (isLn s) := by
  unfold spec_l4Line.f
  exact l4Line_l0 s hs s.size k 0 (by omega) (by omega) hk (by simp)
theorem implLine_eq (s : ByteArray) : impl_IsLine.f s = some (isLn s) := by
  unfold impl_IsLine.f
  by_cases h : (s.size : Int) ≤ 200
  · rw [if_pos h]
    unfold strings_Trim.f
    rw [if_pos (by omega), if_pos (by decide), if_pos (by decide)]
    simp only [Option.bind_some]
    rw [toList_nil]
    have e : (Lib.trimS s.data.toList [48, 49]).isEmpty = s.data.toList.all onOff := by
      rw [Bool.eq_iff_iff, List.isEmpty_iff, trimS_nil]
      have : (fun x => [48, 49].contains x) = onOff := by
        funext x
        simp [onOff, List.contains_eq_mem]
        rfl
      rw [this]
    show some (Lib.trimS s.data.toList [48, 49]).isEmpty = _
    rw [e]
    simp [isLn, show s.size ≤ 200 by omega]
  · rw [if_neg h]; simp [isLn, show ¬ s.size ≤ 200 by omega]
/-! a text as a list of bytes, and as a list of numbers -/
def txt (l : List UInt8) : ByteArray := ⟨l.toArray⟩
def numsOf (l : List UInt8) : List Int := l.map fun b => (b.toNat : Int)
theorem txt_data (l : List UInt8) : (txt l).data.toList = l := rfl
theorem txt_size (l : List UInt8) : (txt l).size = l.length := by rw [← size_data, txt_data]
theorem txt_of (s : ByteArray) : txt s.data.toList = s := rfl
theorem txt_app (l m : List UInt8) : txt l ++ txt m = txt (l ++ m) := by
  apply ByteArray.ext
  apply Array.toList_inj.1
  rw [ByteArray.data_append, Array.toList_append]
  rfl
theorem strOf_nums (l : List UInt8) : strOfNums (numsOf l) = txt l := by
  unfold strOfNums numsOf txt
  rw [List.map_map]
  congr 2
  rw [List.map_congr_left (g := id)]
  · simp
  · intro b _
    simp
theorem nums_app (l : List UInt8) (b : UInt8) (n : Int) (h : (b.toNat : Int) = n) : numsOf l ++ [n] = numsOf (l ++ [b]) := by
  simp [numsOf, h]
theorem nums_len (l : List UInt8) : (numsOf l).length = l.length := by simp [numsOf]
/-! a text said over and over -/
theorem repeat_one (c : UInt8) : ∀ n, Lib.repeatL [c] n = List.replicate n c
  | 0 => rfl
  | n + 1 => by rw [Lib.repeatL, repeat_one c n]; rfl
theorem many_l0 (c : UInt8) (n : Nat) (hn : n ≤ 1048576) (d : Nat) : ∀ (k i : Nat), i ≤ n → n - i = d → d < k → spec_l4Many.l0 k ⟨#[c]⟩ (n : Int) (txt (List.replicate i c)) (i : Int) = some (txt (List.replicate n c)) := by
  induction d with
  | zero =>
    intro k i hi hd hk
    obtain ⟨k, rfl⟩ := pred_of_lt hk
    simp only [spec_l4Many.l0]; rw [if_neg (by omega), show i = n by omega]
  | succ d ih =>
    intro k i hi hd hk
    obtain ⟨k, rfl⟩ := pred_of_lt hk
    have e1 : wrap64 ((i : Int) + 1) = ((i + 1 : Nat) : Int) := by rw [wr (by omega) (by omega)]; omega
    have e2 : txt (List.replicate i c) ++ (⟨#[c]⟩ : ByteArray) = txt (List.replicate (i + 1) c) := by
      show txt (List.replicate i c) ++ txt [c] = _
      rw [txt_app, List.replicate_succ']
    have hz : (txt (List.replicate i c)).size = i := by rw [txt_size, List.length_replicate]
    have h1 : (⟨#[c]⟩ : ByteArray).size = 1 := rfl
    simp only [spec_l4Many.l0]
    rw [if_pos (by omega), if_pos (by omega), e1, e2]
    exact ih k (i + 1) (by omega) (by omega) (by omega)
theorem many_eq (c : UInt8) (n : Int) (h0 : 0 ≤ n) (h1 : n ≤ 1048576) (k : Nat) (hk : n.toNat < k) : spec_l4Many.f k ⟨#[c]⟩ n = some (txt (List.replicate n.toNat c)) := by
  unfold spec_l4Many.f
  have := many_l0 c n.toNat (by omega) n.toNat k 0 (by omega) (by omega) hk
  rw [Int.toNat_of_nonneg h0] at this
  exact this
theorem repeat_eq (c : UInt8) (n : Int) (h0 : 0 ≤ n) (h1 : n ≤ 1048576) : strings_Repeat.f ⟨#[c]⟩ n = some (txt (List.replicate n.toNat c)) := by
  unfold strings_Repeat.f
  have hz : (⟨#[c]⟩ : ByteArray).size = 1 := rfl
  rw [if_pos h0, if_pos (by omega), if_pos (by rw [hz]; omega)]
  show some (txt (Lib.repeatL [c] n.toNat)) = _
  rw [repeat_one]
/-! a text's pieces between the bytes that part them -/
theorem ext_list (s : ByteArray) (i : Nat) : (s.extract i s.size).data.toList = s.data.toList.drop i := by
  rw [ByteArray.data_extract, Array.toList_extract, List.extract_eq_take_drop, List.take_of_length_le]
  have := size_data s
  rw [List.length_drop]; omega
theorem indexByte_is (l : List UInt8) (c : UInt8) (m : Nat) (h1 : l[m]? = some c) (h2 : ∀ k, k < m → l[k]? ≠ some c) : Lib.indexByte l c = (m : Int) := by
  have hge := Lib.indexByte_ge l c
  by_cases hn : Lib.indexByte l c = -1
  · exact absurd h1 (Lib.indexByte_none hn m)
  · obtain ⟨o, ho⟩ : ∃ o : Nat, Lib.indexByte l c = (o : Int) := ⟨(Lib.indexByte l c).toNat, by omega⟩
    obtain ⟨a1, a2⟩ := Lib.indexByte_some ho
    have : o = m := by
      rcases Nat.lt_trichotomy o m with h | h | h
      · exact absurd a1 (h2 o h)
      · exact h
      · exact absurd h1 (a2 m h)
    rw [ho, this]
theorem indexByte_not (l : List UInt8) (c : UInt8) (h2 : ∀ k : Nat, l[k]? ≠ some c) : Lib.indexByte l c = -1 := by
  have hge := Lib.indexByte_ge l c
  by_cases hn : Lib.indexByte l c = -1
  · exact hn
  · obtain ⟨o, ho⟩ : ∃ o : Nat, Lib.indexByte l c = (o : Int) := ⟨(Lib.indexByte l c).toNat, by omega⟩
    exact absurd (Lib.indexByte_some ho).1 (h2 o)
/-- the pieces -/
def pieces (s : ByteArray) (c : UInt8) : List ByteArray := Lib.splitB ⟨#[c]⟩ 0 (Lib.countB s ⟨#[c]⟩) s
theorem pieces_end (s : ByteArray) (c : UInt8) (i : Nat) (h : ∀ k, i ≤ k → s.data.toList[k]? ≠ some c) : pieces (s.extract i s.size) c = [s.extract i s.size] := by
  unfold pieces
  refine Lib.splitB_miss _ _ _ _ ?_
  rw [strings_Split.idx]
  refine indexByte_not _ _ fun k => ?_
  rw [ext_list, List.getElem?_drop]
  exact h _ (by omega)
theorem pieces_hit (s : ByteArray) (c : UInt8) (i j : Nat) (hij : i ≤ j) (hj : j < s.size) (h1 : s.data.toList[j]? = some c) (h2 : ∀ k, i ≤ k → k < j → s.data.toList[k]? ≠ some c) :
    pieces (s.extract i s.size) c = s.extract i j :: pieces (s.extract (j + 1) s.size) c := by
  have hi : Lib.indexB (s.extract i s.size) ⟨#[c]⟩ = ((j - i : Nat) : Int) := by
    rw [strings_Split.idx]
    refine indexByte_is _ _ _ ?_ fun k hk => ?_
    · rw [ext_list, List.getElem?_drop, show i + (j - i) = j by omega]; exact h1
    · rw [ext_list, List.getElem?_drop]; exact h2 _ (by omega) (by omega)
  have hz : (s.extract i s.size).size = s.size - i := by rw [ByteArray.size_extract, Nat.min_self]
  have e1 : (s.extract i s.size).extract (j - i + (⟨#[c]⟩ : ByteArray).size) (s.extract i s.size).size = s.extract (j + 1) s.size := by
    rw [ByteArray.extract_extract, hz]
    show s.extract (i + (j - i + 1)) (min (i + (s.size - i)) s.size) = _
    rw [show i + (j - i + 1) = j + 1 by omega, show min (i + (s.size - i)) s.size = s.size by omega]
  have e2 : (s.extract i s.size).extract 0 (j - i + 0) = s.extract i j := by
    rw [ByteArray.extract_extract, show i + 0 = i by omega, show min (i + (j - i + 0)) s.size = j by omega]
  unfold pieces
  rw [Lib.countB_hit (s.extract i s.size) (⟨#[c]⟩ : ByteArray) (j - i) (Nat.le_refl 1) hi, e1, Nat.add_comm, Lib.splitB_hit _ _ _ _ _ hi, e1, e2]
theorem getL (s : ByteArray) (j : Nat) (h : j < s.size) : s.data.toList[j]? = some (s.data.toList[j]'(by rw [size_data]; exact h)) := List.getElem?_eq_getElem _
theorem l1Split_l0 (s : ByteArray) (hs : s.size ≤ 1048576) (c : UInt8) (d : Nat) : ∀ (k i j : Nat) (x : List ByteArray), i ≤ j → j ≤ s.size → s.size - j = d → d < k → x.length ≤ j → (∀ m, i ≤ m → m < j → s.data.toList[m]? ≠ some c) →
    spec_l1Split.l0 k s (c.toNat : Int) x (i : Int) (j : Int) = some (x ++ pieces (s.extract i s.size) c) := by
  have hsz := size_data s
  induction d with
  | zero =>
    intro k i j x hij hj hd hk hx hn
    obtain ⟨k, rfl⟩ := pred_of_lt hk
    simp only [spec_l1Split.l0]
    rw [if_neg (by omega), if_pos (by omega), if_pos (by omega), if_pos (by omega), pieces_end s c i (fun m hm => by
      by_cases h : m < j
      · exact hn m hm h
      · rw [List.getElem?_eq_none (by omega)]; exact fun h => by cases h), Int.toNat_natCast]
  | succ d ih =>
    intro k i j x hij hj hd hk hx hn
    obtain ⟨k, rfl⟩ := pred_of_lt hk
    have c1 : (j : Int) < (s.size : Int) := by omega
    have c2 : (0 : Int) ≤ (j : Int) := by omega
    have e1 : wrap64 ((j : Int) + 1) = ((j + 1 : Nat) : Int) := by rw [wr (by omega) (by omega)]; omega
    simp only [spec_l1Split.l0, c1, c2, if_true, e1, Int.toNat_natCast]
    by_cases hc : bt s (j : Int) = (c.toNat : Int)
    · rw [if_pos hc, if_pos (by omega), if_pos (by omega), if_pos (by omega), if_pos (by omega)]
      rw [bt_is s j (by omega) c _ rfl] at hc
      rw [ih k (j + 1) (j + 1) _ (by omega) (by omega) (by omega) (by omega) (by simp; omega) (fun m h1 h2 => by omega),
        pieces_hit s c i j hij (by omega) (by rw [getL s j (by omega), hc]) hn, List.append_assoc]
      rfl
    · rw [if_neg hc]
      rw [bt_is s j (by omega) c _ rfl] at hc
      exact ih k i (j + 1) x (by omega) (by omega) (by omega) (by omega) (by omega) (fun m h1 h2 => by
        by_cases h : m = j
        · subst h; rw [getL s m (by omega)]; exact fun h => hc (Option.some.inj h)
        · exact hn m h1 (by omega))
theorem whole (s : ByteArray) : s.extract 0 s.size = s := ByteArray.extract_zero_size
theorem l1Split_eq (s : ByteArray) (hs : s.size ≤ 1048576) (c : UInt8) (k : Nat) (hk : s.size < k) : spec_l1Split.f k s (c.toNat : Int) = some (pieces s c) := by
  unfold spec_l1Split.f
  have := l1Split_l0 s hs c s.size k 0 0 [] (by omega) (by omega) (by omega) hk (by simp) (fun m h1 h2 => by omega)
  rw [whole] at this
  simpa using this
theorem iSplit_eq (s : ByteArray) (hs : s.size ≤ 1048576) (c : UInt8) : strings_Split.f s ⟨#[c]⟩ = some (pieces s c) := by
  show (if s.size < 4294967281 then some (Lib.splitB ⟨#[c]⟩ 0 (Lib.countB s ⟨#[c]⟩) s) else none) = _
  rw [if_pos (by omega)]; rfl
theorem pieces_len (s : ByteArray) (c : UInt8) : (pieces s c).length ≤ s.size + 1 := by
  unfold pieces
  have := Lib.countB_le (⟨#[c]⟩ : ByteArray) (Nat.le_refl 1) s.size s (Nat.le_refl _)
  have := Lib.splitB_all (⟨#[c]⟩ : ByteArray) (Nat.le_refl 1) 0 _ s rfl
  omega
theorem one_byte (a : ByteArray) (h : (a.size : Int) = 1) : ∃ c : UInt8, a = ⟨#[c]⟩ := by
  obtain ⟨⟨l⟩⟩ := a
  match l, h with
  | [c], _ => exact ⟨c, rfl⟩
/-! a signal, as both sides ask for it -/
theorem pieces_step (s : ByteArray) (c : UInt8) : pieces s c = [s] ∨ ∃ o : Nat, o < s.size ∧ pieces s c = s.extract 0 o :: pieces (s.extract (o + 1) s.size) c := by
  have hsz := size_data s
  have hge := Lib.indexByte_ge s.data.toList c
  by_cases hn : Lib.indexByte s.data.toList c = -1
  · refine Or.inl (Lib.splitB_miss _ _ _ _ ?_)
    rw [strings_Split.idx]; exact hn
  · obtain ⟨o, ho⟩ : ∃ o : Nat, Lib.indexByte s.data.toList c = (o : Int) := ⟨(Lib.indexByte s.data.toList c).toNat, by omega⟩
    have h1 := (Lib.indexByte_some ho).1
    have hlt : o < s.size := by rw [← hsz]; exact (List.getElem?_eq_some_iff.1 h1).1
    have hi : Lib.indexB s ⟨#[c]⟩ = (o : Int) := by rw [strings_Split.idx]; exact ho
    refine Or.inr ⟨o, hlt, ?_⟩
    unfold pieces
    rw [Lib.countB_hit s (⟨#[c]⟩ : ByteArray) o (Nat.le_refl 1) hi, Nat.add_comm, Lib.splitB_hit _ _ _ _ _ hi]
    rfl
theorem pieces_sum (c : UInt8) : ∀ (n : Nat) (s : ByteArray), s.size ≤ n → ((pieces s c).map fun p => p.size + 1).sum = s.size + 1 := by
  intro n
  induction n with
  | zero =>
    intro s hs
    rcases pieces_step s c with h | ⟨o, ho, h⟩
    · rw [h]; simp
    · omega
  | succ n ih =>
    intro s hs
    rcases pieces_step s c with h | ⟨o, ho, h⟩
    · rw [h]; simp
    · rw [h, List.map_cons, List.sum_cons, ih (s.extract (o + 1) s.size) (by rw [ByteArray.size_extract]; omega), ByteArray.size_extract, ByteArray.size_extract]
      omega
theorem mem_le_sum (f : ByteArray → Nat) : ∀ (l : List ByteArray) (p : ByteArray), p ∈ l → f p ≤ (l.map f).sum
  | [], _, h => by cases h
  | a :: l, p, h => by
    rw [List.map_cons, List.sum_cons]
    rcases List.mem_cons.1 h with h | h
    · rw [h]; omega
    · have := mem_le_sum f l p h; omega
theorem piece_size (s : ByteArray) (c : UInt8) (p : ByteArray) (h : p ∈ pieces s c) : p.size ≤ s.size := by
  have h1 := mem_le_sum (fun p => p.size + 1) _ p h
  rw [pieces_sum c s.size s (Nat.le_refl _)] at h1
  omega
def wordsL (s : ByteArray) : List (List ByteArray) := (pieces s 47).map fun w => pieces w 32
theorem l2Words_l0 (P : List ByteArray) (hP : P.length ≤ 1048577) (hs : ∀ p ∈ P, p.size ≤ 1048576) (d : Nat) : ∀ (k i : Nat), i ≤ P.length → P.length - i = d → d + 1048577 < k →
    spec_l2Words.l0 k ((P.take i).map fun w => pieces w 32) P (i : Int) = some (P.map fun w => pieces w 32) := by
  induction d with
  | zero =>
    intro k i hi hd hk
    obtain ⟨k, rfl⟩ := pred_of_lt hk
    simp only [spec_l2Words.l0]
    rw [if_neg (by omega), List.take_of_length_le (by omega)]
  | succ d ih =>
    intro k i hi hd hk
    obtain ⟨k, rfl⟩ := pred_of_lt hk
    have hlt : i < P.length := by omega
    obtain ⟨p, hp, hget, hsn⟩ : ∃ p : ByteArray, p.size ≤ 1048576 ∧ rdOf ByteArray.empty P (i : Int) = p ∧ (P.take (i + 1)).map (fun w => pieces w 32) = (P.take i).map (fun w => pieces w 32) ++ [pieces p 32] :=
      ⟨P[i], hs _ (List.getElem_mem hlt), rdS_get P i hlt, by rw [List.take_succ_eq_append_getElem hlt, List.map_append]; rfl⟩
    have n := ih k (i + 1) hlt (by rw [Nat.sub_add_eq, hd]; rfl) (by omega)
    have hsp := l1Split_eq p hp 32 k (by omega)
    have h32 : (((32 : UInt8).toNat : Nat) : Int) = 32 := rfl
    rw [h32] at hsp
    have hln : ((P.take i).map fun w => pieces w 32).length < 5864062014805 := by rw [List.length_map, List.length_take]; omega
    have c1 : (i : Int) < (P.length : Int) := by omega
    have c2 : (0 : Int) ≤ (i : Int) := by omega
    have e1 : wrap64 ((i : Int) + 1) = ((i + 1 : Nat) : Int) := by rw [wr (by omega) (by omega)]; omega
    simp only [spec_l2Words.l0, c1, c2, if_true, hget, hsp, Option.bind_some, hln, e1]
    rw [← hsn]; exact n
theorem l2Words_eq (s : ByteArray) (hs : s.size ≤ 1048576) (k : Nat) (hk : 2097200 ≤ k) : spec_l2Words.f k s = some (wordsL s) := by
  unfold spec_l2Words.f
  have h47 : (((47 : UInt8).toNat : Nat) : Int) = 47 := rfl
  have hsp := l1Split_eq s hs 47 k (by omega)
  rw [h47] at hsp
  rw [hsp]
  simp only [Option.bind_some]
  have hl := pieces_len s 47
  exact l2Words_l0 (pieces s 47) (by omega) (fun p hp => by have := piece_size s 47 p hp; omega) (pieces s 47).length k 0 (by omega) (by omega) (by omega)
theorem lettersOf_l0 (P : List ByteArray) (hP : P.length ≤ 1048577) (hs : ∀ p ∈ P, p.size ≤ 1048576) (d : Nat) : ∀ (k i : Nat), i ≤ P.length → P.length - i = d → d < k →
    impl_lettersOf.l0 k ((P.take i).map fun w => pieces w 32) P (P.length : Int) (i : Int) = some (P.map fun w => pieces w 32) := by
  induction d with
  | zero =>
    intro k i hi hd hk
    obtain ⟨k, rfl⟩ := pred_of_lt hk
    simp only [impl_lettersOf.l0]
    rw [if_neg (by omega), List.take_of_length_le (by omega)]
  | succ d ih =>
    intro k i hi hd hk
    obtain ⟨k, rfl⟩ := pred_of_lt hk
    have hlt : i < P.length := by omega
    obtain ⟨p, hp, hget, hsn⟩ : ∃ p : ByteArray, p.size ≤ 1048576 ∧ rdOf ByteArray.empty P (i : Int) = p ∧ (P.take (i + 1)).map (fun w => pieces w 32) = (P.take i).map (fun w => pieces w 32) ++ [pieces p 32] :=
      ⟨P[i], hs _ (List.getElem_mem hlt), rdS_get P i hlt, by rw [List.take_succ_eq_append_getElem hlt, List.map_append]; rfl⟩
    have n := ih k (i + 1) hlt (by rw [Nat.sub_add_eq, hd]; rfl) (by omega)
    have hsp := iSplit_eq p hp 32
    have hln : ((P.take i).map fun w => pieces w 32).length < 5864062014805 := by rw [List.length_map, List.length_take]; omega
    have c1 : (i : Int) < (P.length : Int) := by omega
    have c2 : (0 : Int) ≤ (i : Int) := by omega
    have e1 : wrap64 ((i : Int) + 1) = ((i + 1 : Nat) : Int) := by rw [wr (by omega) (by omega)]; omega
    simp only [impl_lettersOf.l0, c1, c2, if_true, hget, hsp, Option.bind_some, hln, e1]
    rw [← hsn]; exact n
theorem isNil (s : ByteArray) : (s.toList = ([] : List UInt8)) ↔ s.size = 0 := by
  rw [ByteArray.toList_eq, ← size_data s]
  exact List.length_eq_zero_iff.symm
def wordsI (s : ByteArray) : List (List ByteArray) := if s.size = 0 then [] else wordsL s
theorem lettersOf_eq (s : ByteArray) (hs : s.size ≤ 1048576) (k : Nat) (hk : 1048580 ≤ k) : impl_lettersOf.f k s = some (wordsI s) := by
  unfold impl_lettersOf.f wordsI
  simp only [Option.bind_some, isNil]
  by_cases h : s.size = 0
  · rw [if_pos h, if_pos h]
  · rw [if_neg h, if_neg h, iSplit_eq s hs 47]
    simp only [Option.bind_some]
    have hl := pieces_len s 47
    exact lettersOf_l0 (pieces s 47) (by omega) (fun p hp => by have := piece_size s 47 p hp; omega) (pieces s 47).length k 0 (by omega) (by omega) (by omega)
/-- every letter is marks; and how many letters and breaks there are -/
def okL (w : List ByteArray) : Bool := w.all fun s => isMk s 1 5
def okW (W : List (List ByteArray)) : Bool := W.all okL
def cntW (W : List (List ByteArray)) : Nat := (W.map fun w => w.length).sum
theorem cntW_cons (w : List ByteArray) (W : List (List ByteArray)) : cntW (w :: W) = w.length + cntW W := by simp [cntW]
theorem rdL_get (W : List (List ByteArray)) (i : Nat) (h : i < W.length) : rd_L1 W (i : Int) = W[i] := by simp [rd_L1, h]
theorem sSig_l1 (W : List (List ByteArray)) (i : Nat) (hi : i < W.length) (hWl : W.length ≤ 1048577) (w : List ByteArray) (hw : rd_L1 W (i : Int) = w) (hwl : w.length ≤ 1048577) (hws : ∀ s ∈ w, s.size ≤ 1048576) (x4 : Int) (h0 : 0 ≤ x4) (h4 : x4 ≤ 1099511627776) (q : Nat) (hq : 2097160 ≤ q) (d : Nat) : ∀ (m j : Nat), m = q + d + 1 → j ≤ w.length → w.length - j = d →
    spec_l2Signal.l1 m W x4 (i : Int) (j : Int) = if okL (w.drop j) = true then spec_l2Signal.l0 q W (x4 + (w.length : Int) + 1) ((i + 1 : Nat) : Int) else some false := by
  have ci1 : (i : Int) < (W.length : Int) := by omega
  have ci0 : (0 : Int) ≤ (i : Int) := by omega
  have ex : wrap64 (wrap64 (x4 + (w.length : Int)) + 1) = x4 + (w.length : Int) + 1 := by rw [wr (i := x4 + (w.length : Int)) (by omega) (by omega), wr (by omega) (by omega)]
  have ei : wrap64 ((i : Int) + 1) = ((i + 1 : Nat) : Int) := by clear ex; rw [wr (by omega) (by omega)]; omega
  induction d with
  | zero =>
    intro m j hm hj hd
    subst hm
    have hjl : j = w.length := by clear ei ex; omega
    have cj : ¬ (j : Int) < (w.length : Int) := by clear ei ex; omega
    simp only [spec_l2Signal.l1, Nat.add_zero, ci0, ci1, if_true, hw, cj, if_false, ei, ex]
    rw [hjl, List.drop_length, if_pos (show okL [] = true from rfl)]
  | succ d ih =>
    intro m j hm hj hd
    obtain ⟨m, rfl⟩ : ∃ m', m = m' + 1 := ⟨q + d + 1, by clear ei ex ih; omega⟩
    have hmq : 2097160 ≤ m := by clear ei ex ih; omega
    have hlt : j < w.length := by clear ei ex ih; omega
    obtain ⟨s, hs, hget, hdrop⟩ : ∃ s : ByteArray, s.size ≤ 1048576 ∧ rdOf ByteArray.empty w (j : Int) = s ∧ okL (w.drop j) = (isMk s 1 5 && okL (w.drop (j + 1))) := ⟨w[j], hws _ (List.getElem_mem hlt), rdS_get w j hlt, by rw [List.drop_eq_getElem_cons hlt]; rfl⟩
    have n := ih m (j + 1) (Nat.succ.inj hm) hlt (by rw [Nat.sub_add_eq, hd]; rfl)
    have c1 : (j : Int) < (w.length : Int) := by clear ei ex ih n; omega
    have c2 : (0 : Int) ≤ (j : Int) := by clear ei ex ih n; omega
    have hmk := l2Marks_eq s hs 1 5 m (by clear ei ex ih n; omega)
    have e1 : wrap64 ((j : Int) + 1) = ((j + 1 : Nat) : Int) := by clear ei ex ih n; rw [wr (by omega) (by omega)]; omega
    simp only [spec_l2Signal.l1, ci0, ci1, c1, c2, if_true, hw, hget, hmk, Option.bind_some, e1, hdrop]
    by_cases hmk2 : isMk s 1 5 = true
    · rw [if_pos hmk2, n, hmk2, Bool.true_and]
    · rw [if_neg hmk2, (Bool.not_eq_true _).mp hmk2, Bool.false_and, if_neg (by decide)]
theorem iSig_l1 (W : List (List ByteArray)) (i : Nat) (hi : i < W.length) (hWl : W.length ≤ 1048577) (w : List ByteArray) (hwl : w.length ≤ 1048577) (hws : ∀ s ∈ w, s.size ≤ 1048576) (x4 : Int) (q : Nat) (d : Nat) : ∀ (m j : Nat), m = q + d + 1 → j ≤ w.length → w.length - j = d →
    impl_isSignal.l1 m x4 W (W.length : Int) (i : Int) w (w.length : Int) (j : Int) = if okL (w.drop j) = true then impl_isSignal.l0 q x4 W (W.length : Int) ((i + 1 : Nat) : Int) else some false := by
  have ei : wrap64 ((i : Int) + 1) = ((i + 1 : Nat) : Int) := by rw [wr (by omega) (by omega)]; omega
  induction d with
  | zero =>
    intro m j hm hj hd
    subst hm
    have hjl : j = w.length := by clear ei; omega
    have cj : ¬ (j : Int) < (w.length : Int) := by clear ei; omega
    simp only [impl_isSignal.l1, Nat.add_zero, cj, if_false, ei]
    rw [hjl, List.drop_length, if_pos (show okL [] = true from rfl)]
  | succ d ih =>
    intro m j hm hj hd
    obtain ⟨m, rfl⟩ : ∃ m', m = m' + 1 := ⟨q + d + 1, by clear ei ih; omega⟩
    have hlt : j < w.length := by clear ei ih; omega
    obtain ⟨s, hs, hget, hdrop⟩ : ∃ s : ByteArray, s.size ≤ 1048576 ∧ rdOf ByteArray.empty w (j : Int) = s ∧ okL (w.drop j) = (isMk s 1 5 && okL (w.drop (j + 1))) := ⟨w[j], hws _ (List.getElem_mem hlt), rdS_get w j hlt, by rw [List.drop_eq_getElem_cons hlt]; rfl⟩
    have n := ih m (j + 1) (Nat.succ.inj hm) hlt (by rw [Nat.sub_add_eq, hd]; rfl)
    have c1 : (j : Int) < (w.length : Int) := by clear ei ih n; omega
    have c2 : (0 : Int) ≤ (j : Int) := by clear ei ih n; omega
    have hmk : impl_isLetterMarks.f s = some (isMk s 1 5) := by
      unfold impl_isLetterMarks.f
      rw [areMarks_eq s hs 1 5]; rfl
    have e1 : wrap64 ((j : Int) + 1) = ((j + 1 : Nat) : Int) := by clear ei ih n; rw [wr (by omega) (by omega)]; omega
    simp only [impl_isSignal.l1, c1, c2, if_true, hget, hmk, Option.bind_some, e1, hdrop]
    by_cases hmk2 : isMk s 1 5 = true
    · rw [if_pos hmk2, n, hmk2, Bool.true_and]
    · rw [if_neg hmk2, (Bool.not_eq_true _).mp hmk2, Bool.false_and, if_neg (by decide)]
def fuW (W : List (List ByteArray)) : Nat := (W.map fun w => w.length + 2).sum
theorem fuW_eq (W : List (List ByteArray)) : fuW W = cntW W + 2 * W.length := by
  induction W with
  | nil => rfl
  | cons w W ih => simp only [fuW, cntW, List.map_cons, List.sum_cons, List.length_cons] at ih ⊢; omega
theorem sig_l0 (W : List (List ByteArray)) (hWl : W.length ≤ 1048577) (hW : ∀ w ∈ W, w.length ≤ 1048577 ∧ ∀ s ∈ w, s.size ≤ 1048576) (q0 : Nat) (hq0 : 2097160 ≤ q0) (d : Nat) : ∀ (m i : Nat) (x4 y4 : Int), m = q0 + fuW (W.drop i) + 1 → i ≤ W.length → W.length - i = d → 0 ≤ x4 → x4 + (cntW (W.drop i) : Int) + ((W.drop i).length : Int) ≤ 1099511627776 → -1 ≤ y4 → y4 + (cntW (W.drop i) : Int) ≤ 1099511627776 →
    spec_l2Signal.l0 m W x4 (i : Int) = some (okW (W.drop i) && decide (x4 + (cntW (W.drop i) : Int) + ((W.drop i).length : Int) - 1 ≤ 12)) ∧
    impl_isSignal.l0 m y4 W (W.length : Int) (i : Int) = some (okW (W.drop i) && decide (y4 + (cntW (W.drop i) : Int) ≤ 12)) := by
  induction d with
  | zero =>
    intro m i x4 y4 hm hi hd h0 hx hy0 hy
    subst hm
    have hil : i = W.length := by omega
    have hdr : W.drop i = [] := by rw [hil, List.drop_length]
    rw [hdr] at hx hy ⊢
    have hc : cntW [] = 0 := rfl
    have hl : ([] : List (List ByteArray)).length = 0 := rfl
    have ho : okW [] = true := rfl
    rw [hc, hl] at hx ⊢
    rw [hc] at hy
    have ci : ¬ (i : Int) < (W.length : Int) := by omega
    simp only [spec_l2Signal.l0, impl_isSignal.l0, ci, if_false, ho, Bool.true_and]
    rw [wr (by omega) (by omega)]
    refine ⟨congrArg some (decide_eq_decide.2 ?_), congrArg some (decide_eq_decide.2 ?_)⟩ <;> omega
  | succ d ih =>
    intro m i x4 y4 hm hi hd h0 hx hy0 hy
    have hlt : i < W.length := by omega
    obtain ⟨w, hwl, hws, hget, hdr⟩ : ∃ w : List ByteArray, w.length ≤ 1048577 ∧ (∀ s ∈ w, s.size ≤ 1048576) ∧ rd_L1 W (i : Int) = w ∧ W.drop i = w :: W.drop (i + 1) := ⟨W[i], (hW _ (List.getElem_mem hlt)).1, (hW _ (List.getElem_mem hlt)).2, rdL_get W i hlt, List.drop_eq_getElem_cons hlt⟩
    rw [hdr] at hm hx hy ⊢
    rw [cntW_cons, List.length_cons] at hx
    rw [cntW_cons] at hy
    have hfu : fuW (w :: W.drop (i + 1)) = w.length + 2 + fuW (W.drop (i + 1)) := by simp [fuW]
    rw [hfu] at hm
    obtain ⟨q, hq⟩ : ∃ q, q = q0 + fuW (W.drop (i + 1)) + 1 := ⟨_, rfl⟩
    obtain ⟨m, rfl⟩ : ∃ m', m = m' + 1 := ⟨q + w.length + 1, by omega⟩
    have s := sSig_l1 W i hlt hWl w hget hwl hws x4 h0 (by omega) q (by omega) w.length m 0 (by omega) (by omega) (by omega)
    have t := iSig_l1 W i hlt hWl w hwl hws (y4 + (w.length : Int)) q w.length m 0 (by omega) (by omega) (by omega)
    have n := ih q (i + 1) (x4 + (w.length : Int) + 1) (y4 + (w.length : Int)) hq hlt (by omega) (by omega) (by omega) (by omega) (by omega)
    rw [List.drop_zero, n.1] at s
    rw [List.drop_zero, n.2] at t
    have ci : (i : Int) < (W.length : Int) := by omega
    have c0 : (0 : Int) ≤ (i : Int) := by omega
    have ey : wrap64 (y4 + (w.length : Int)) = y4 + (w.length : Int) := by rw [wr (by omega) (by omega)]
    have hz : ((0 : Nat) : Int) = 0 := rfl
    rw [hz] at s t
    have hok : okW (w :: W.drop (i + 1)) = (okL w && okW (W.drop (i + 1))) := rfl
    rw [hok, cntW_cons, List.length_cons]
    simp only [spec_l2Signal.l0, impl_isSignal.l0, ci, c0, if_true, hget, ey, s, t]
    clear ey s t n ih
    by_cases ho : okL w = true
    · rw [if_pos ho, if_pos ho, ho, Bool.true_and]
      refine ⟨congrArg some (congrArg (okW (W.drop (i + 1)) && ·) (decide_eq_decide.2 ?_)), congrArg some (congrArg (okW (W.drop (i + 1)) && ·) (decide_eq_decide.2 ?_))⟩ <;> omega
    · rw [if_neg ho, if_neg ho, (Bool.not_eq_true _).mp ho]
      exact ⟨rfl, rfl⟩
theorem wordsL_cnt (s : ByteArray) : cntW (wordsL s) ≤ s.size + 1 := by
  have h := pieces_sum 47 s.size s (Nat.le_refl _)
  unfold wordsL cntW
  rw [List.map_map]
  have : ∀ P : List ByteArray, (P.map ((fun w => w.length) ∘ fun w => pieces w 32)).sum ≤ (P.map fun p => p.size + 1).sum := by
    intro P
    induction P with
    | nil => exact Nat.le_refl _
    | cons p P ih =>
      have := pieces_len p 32
      simp only [List.map_cons, List.sum_cons, Function.comp] at ih ⊢; omega
  have := this (pieces s 47)
  omega
theorem okL_size (w : List ByteArray) (h : okL w = true) : (w.map fun p => p.size + 1).sum ≤ 6 * w.length := by
  induction w with
  | nil => exact Nat.le_refl _
  | cons a w ih =>
    simp only [okL, List.all_cons, Bool.and_eq_true] at h ih
    have h1 := ih h.2
    have h2 : a.size ≤ 5 := by
      have := h.1
      simp only [isMk, Bool.and_eq_true, decide_eq_true_eq] at this
      omega
    simp only [List.map_cons, List.sum_cons, List.length_cons]; omega
theorem okW_size (s : ByteArray) (h : okW (wordsL s) = true) : s.size + 1 ≤ 6 * cntW (wordsL s) := by
  have h47 := pieces_sum 47 s.size s (Nat.le_refl _)
  have : ∀ P : List ByteArray, okW (P.map fun w => pieces w 32) = true → (P.map fun p => p.size + 1).sum ≤ 6 * cntW (P.map fun w => pieces w 32) := by
    intro P
    induction P with
    | nil => intro _; exact Nat.le_refl _
    | cons p P ih =>
      intro ho
      simp only [okW, List.map_cons, List.all_cons, Bool.and_eq_true] at ho ih
      have h1 := ih ho.2
      have h2 := okL_size _ ho.1
      rw [pieces_sum 32 p.size p (Nat.le_refl _)] at h2
      rw [List.map_cons, List.map_cons, List.sum_cons, cntW_cons]; omega
  have := this (pieces s 47) h
  unfold wordsL; omega
def isSig (s : ByteArray) : Bool := if s.size = 0 then true else if s.size > 72 then false else okW (wordsL s) && decide ((cntW (wordsL s) : Int) + ((wordsL s).length : Int) - 1 ≤ 12)
theorem wordsL_bounds (s : ByteArray) (hs : s.size ≤ 1048576) : (wordsL s).length ≤ 1048577 ∧ ∀ w ∈ wordsL s, w.length ≤ 1048577 ∧ ∀ x ∈ w, x.size ≤ 1048576 := by
  refine ⟨?_, fun w hw => ?_⟩
  · have := pieces_len s 47
    unfold wordsL; rw [List.length_map]; omega
  · unfold wordsL at hw
    obtain ⟨p, hp, rfl⟩ := List.mem_map.1 hw
    have h1 := piece_size s 47 p hp
    have h2 := pieces_len p 32
    exact ⟨by omega, fun x hx => by have := piece_size p 32 x hx; omega⟩
theorem isSig_both (s : ByteArray) (hs : s.size ≤ 1048576) (k : Nat) (hk : 8388640 ≤ k) : spec_l2Signal.f k s = some (isSig s) ∧ impl_isSignal.f k s = some (isSig s) := by
  obtain ⟨b1, b2⟩ := wordsL_bounds s hs
  have hcnt := wordsL_cnt s
  have hfu := fuW_eq (wordsL s)
  unfold spec_l2Signal.f impl_isSignal.f isSig
  rw [lettersOf_eq s hs k (by omega)]
  simp only [isNil, Option.bind_some]
  by_cases h0 : s.size = 0
  · rw [if_pos h0, if_pos h0]
    refine ⟨rfl, ?_⟩
    have e : wordsI s = [] := by unfold wordsI; rw [if_pos h0]
    obtain ⟨k, rfl⟩ : ∃ m, k = m + 1 := ⟨k - 1, by omega⟩
    rw [e]
    simp only [impl_isSignal.l0, List.length_nil]
    rw [if_neg (by omega)]
    have hw : wrap64 (((0 : Nat) : Int) - 1) ≤ 12 := by rw [wr (by omega) (by omega)]; omega
    exact congrArg some (decide_eq_true hw)
  · have e : wordsI s = wordsL s := by unfold wordsI; rw [if_neg h0]
    have hl1 : 1 ≤ (wordsL s).length := by
      unfold wordsL
      rw [List.length_map]
      rcases pieces_step s 47 with h | ⟨o, ho, h⟩
      · rw [h]; simp
      · rw [h]; simp
    have both := sig_l0 (wordsL s) b1 b2 (k - fuW (wordsL s) - 1) (by omega) (wordsL s).length k 0 0 (((wordsL s).length : Int) - 1) (by rw [List.drop_zero]; omega) (by omega) (by omega) (by omega) (by rw [List.drop_zero]; omega) (by omega) (by rw [List.drop_zero]; omega)
    rw [List.drop_zero] at both
    have hz : ((0 : Nat) : Int) = 0 := rfl
    rw [hz, Int.zero_add] at both
    rw [if_neg h0, if_neg h0, e, wr (by omega) (by omega), both.2]
    have hcomm : decide (((wordsL s).length : Int) - 1 + (cntW (wordsL s) : Int) ≤ 12) = decide ((cntW (wordsL s) : Int) + ((wordsL s).length : Int) - 1 ≤ 12) := decide_eq_decide.2 (by omega)
    rw [hcomm]
    by_cases h72 : s.size > 72
    · have h72' : (s.size : Int) > 72 := by omega
      rw [if_pos h72', if_pos h72]
      refine ⟨rfl, congrArg some ?_⟩
      by_cases ho : okW (wordsL s) = true
      · have := okW_size s ho
        rw [ho, Bool.true_and, decide_eq_false_iff_not]; omega
      · rw [(Bool.not_eq_true _).mp ho, Bool.false_and]
    · have h72' : ¬ (s.size : Int) > 72 := by omega
      rw [if_neg h72', if_neg h72, l2Words_eq s hs k (by omega)]
      simp only [Option.bind_some]
      exact ⟨both.1, trivial⟩
/-! the line of a signal, as both sides lay it -/
def mkc (c : UInt8) : List UInt8 := if c = 46 then [49] else [49, 49, 49]
def isSep (c : UInt8) : Bool := c == 32 || c == 47
def gp : Bool → List UInt8 → List UInt8
  | _, [] => []
  | st, c :: cs => if c = 32 then [48, 48, 48] ++ gp true cs else if c = 47 then [48, 48, 48, 48, 48, 48, 48] ++ gp true cs else ((if st then [] else [48]) ++ mkc c) ++ gp false cs
def stAt (s : ByteArray) (i : Nat) : Bool := if i = 0 then true else isSep (s.data.toList.getD (i - 1) 0)
theorem mkc_len (c : UInt8) : 1 ≤ (mkc c).length ∧ (mkc c).length ≤ 3 := by unfold mkc; split <;> simp
theorem l4Of_j1 (s : ByteArray) (k i : Nat) (hi : i < s.size) (c : UInt8) (hc : s.data.toList[i]'(by rw [size_data]; exact hi) = c) (acc : List UInt8) (ha : acc.length ≤ 100000000) (b : Bool) :
    spec_l4Of.j1 (k + 1) s (txt acc) (i : Int) b = spec_l4Of.l0 k s (txt (acc ++ ((if b then [48] else []) ++ mkc c))) (wrap64 ((i : Int) + 1)) := by
  have hz := txt_size acc
  have c2 : (0 : Int) ≤ (i : Int) := by omega
  have c3 : (i : Int) < (s.size : Int) := by omega
  have hz1 : (txt acc ++ (⟨#[48]⟩ : ByteArray)) = txt (acc ++ [48]) := txt_app acc [48]
  have hz2 := txt_size (acc ++ [48])
  rw [List.length_append] at hz2
  have hl1 : ([48] : List UInt8).length = 1 := rfl
  have b46 : (bt s (i : Int) = 46) ↔ c = 46 := by rw [bt_is s i hi 46 46 (by decide), hc]
  simp only [spec_l4Of.j1]
  cases b with
  | true =>
    rw [if_pos rfl, if_pos (by omega), if_pos c2, if_pos c3, hz1]
    by_cases h : c = 46
    · rw [if_pos (b46.2 h), if_pos (by omega), show (⟨#[49]⟩ : ByteArray) = txt [49] from rfl, txt_app]
      unfold mkc; rw [if_pos h, if_pos rfl, List.append_assoc]
    · rw [if_neg (fun e => h (b46.1 e)), if_pos (by omega), show (⟨#[49, 49, 49]⟩ : ByteArray) = txt [49, 49, 49] from rfl, txt_app]
      unfold mkc; rw [if_neg h, if_pos rfl, List.append_assoc]
  | false =>
    rw [if_neg (by decide), if_pos c2, if_pos c3]
    by_cases h : c = 46
    · rw [if_pos (b46.2 h), if_pos (by omega), show (⟨#[49]⟩ : ByteArray) = txt [49] from rfl, txt_app]
      unfold mkc; rw [if_pos h, if_neg (by decide), List.nil_append]
    · rw [if_neg (fun e => h (b46.1 e)), if_pos (by omega), show (⟨#[49, 49, 49]⟩ : ByteArray) = txt [49, 49, 49] from rfl, txt_app]
      unfold mkc; rw [if_neg h, if_neg (by decide), List.nil_append]
theorem l4Of_l0 (s : ByteArray) (hs : s.size ≤ 1048576) (d : Nat) : ∀ (k i : Nat) (acc : List UInt8), i ≤ s.size → s.size - i = d → 2 * d < k → acc.length ≤ 7 * i →
    spec_l4Of.l0 k s (txt acc) (i : Int) = some (txt (acc ++ gp (stAt s i) (s.data.toList.drop i))) := by
  have hsz := size_data s
  induction d with
  | zero =>
    intro k i acc hi hd hk ha
    obtain ⟨k, rfl⟩ := pred_of_lt hk
    rw [spec_l4Of.l0, if_neg (by omega), List.drop_eq_nil_of_le (by omega)]
    simp only [gp, List.append_nil]
  | succ d ih =>
    intro k i acc hi hd hk ha
    obtain ⟨k, rfl⟩ := pred_of_lt hk
    obtain ⟨k, rfl⟩ : ∃ m, k = m + 1 := ⟨k - 1, by omega⟩
    have hlt : i < s.data.toList.length := by omega
    have hi' : i < s.size := by omega
    have hz := txt_size acc
    have c1 : (i : Int) < (s.size : Int) := by omega
    have c2 : (0 : Int) ≤ (i : Int) := by omega
    have e : wrap64 ((i : Int) + 1) = ((i + 1 : Nat) : Int) := by rw [wr (by omega) (by omega)]; rfl
    obtain ⟨c, hc⟩ : ∃ c, s.data.toList[i] = c := ⟨_, rfl⟩
    have hdr : s.data.toList.drop i = c :: s.data.toList.drop (i + 1) := by rw [List.drop_eq_getElem_cons hlt, hc]
    have hst : stAt s (i + 1) = isSep c := by
      unfold stAt
      rw [if_neg (by omega), show i + 1 - 1 = i by omega, List.getD_eq_getElem?_getD, List.getElem?_eq_getElem hlt, hc]; rfl
    have b32 : (bt s (i : Int) = 32) ↔ c = 32 := by rw [bt_is s i hi' 32 32 (by decide), hc]
    have b47 : (bt s (i : Int) = 47) ↔ c = 47 := by rw [bt_is s i hi' 47 47 (by decide), hc]
    rw [hdr, spec_l4Of.l0, if_pos c1, if_pos c2]
    by_cases h32 : c = 32
    · rw [if_pos (b32.2 h32), if_pos (by omega), e, show (⟨#[48, 48, 48]⟩ : ByteArray) = txt [48, 48, 48] from rfl, txt_app,
        ih (k + 1) (i + 1) (acc ++ [48, 48, 48]) (by omega) (by omega) (by omega) (by rw [List.length_append]; simp only [List.length_cons, List.length_nil]; omega), hst]
      simp only [gp, h32, if_true, List.append_assoc]; rfl
    · rw [if_neg (fun x => h32 (b32.1 x))]
      by_cases h47 : c = 47
      · rw [if_pos (b47.2 h47), if_pos (by omega), e, show (⟨#[48, 48, 48, 48, 48, 48, 48]⟩ : ByteArray) = txt [48, 48, 48, 48, 48, 48, 48] from rfl, txt_app,
          ih (k + 1) (i + 1) (acc ++ [48, 48, 48, 48, 48, 48, 48]) (by omega) (by omega) (by omega) (by rw [List.length_append]; simp only [List.length_cons, List.length_nil]; omega), hst]
        simp only [gp, h32, h47, if_true, if_false, List.append_assoc]; rfl
      · rw [if_neg (fun x => h47 (b47.1 x))]
        have fin : ∀ b : Bool, b = !stAt s i → spec_l4Of.j1 (k + 1) s (txt acc) (i : Int) b = some (txt (acc ++ gp (stAt s i) (c :: s.data.toList.drop (i + 1)))) := by
          intro b hb
          have hm := mkc_len c
          rw [l4Of_j1 s k i hi' c hc acc (by omega) b, e, ih k (i + 1) _ (by omega) (by omega) (by omega) (by
            rw [List.length_append, List.length_append]
            have : (if b = true then ([48] : List UInt8) else []).length ≤ 1 := by split <;> simp
            omega), hst]
          have hs2 : isSep c = false := by
            unfold isSep
            simp [h32, h47]
          rw [hs2, hb]
          simp only [gp, h32, h47, if_false, List.append_assoc]
          cases stAt s i <;> simp
        by_cases h0 : i = 0
        · subst h0
          rw [if_neg (by omega)]
          exact fin false rfl
        · have e1 : wrap64 ((i : Int) - 1) = ((i - 1 : Nat) : Int) := by rw [wr (by omega) (by omega)]; omega
          have hp : i - 1 < s.data.toList.length := by omega
          have p32 := bt_is s (i - 1) (by omega) 32 32 (by decide)
          have p47 := bt_is s (i - 1) (by omega) 47 47 (by decide)
          have hst0 : stAt s i = isSep (s.data.toList[i - 1]) := by
            unfold stAt
            rw [if_neg h0, List.getD_eq_getElem?_getD, List.getElem?_eq_getElem hp]; rfl
          rw [if_pos (by omega), e1, if_pos (by omega), if_pos (by omega)]
          by_cases q32 : bt s ((i - 1 : Nat) : Int) = 32
          · rw [if_pos q32]
            refine fin false ?_
            rw [hst0, p32.1 q32]; rfl
          · rw [if_neg q32]
            refine fin _ ?_
            rw [hst0]
            by_cases q47 : bt s ((i - 1 : Nat) : Int) = 47
            · rw [p47.1 q47, q47]; rfl
            · have n32 : ¬ s.data.toList[i - 1] = 32 := fun x => q32 (p32.2 x)
              have n47 : ¬ s.data.toList[i - 1] = 47 := fun x => q47 (p47.2 x)
              have : (bt s ((i - 1 : Nat) : Int) != 47) = true := by simp [q47]
              rw [this]
              obtain ⟨p, hp2⟩ : ∃ p, s.data.toList[i - 1] = p := ⟨_, rfl⟩
              rw [hp2] at n32 n47 ⊢
              unfold isSep
              simp [n32, n47]
theorem l4Of_eq (s : ByteArray) (hs : s.size ≤ 1048576) (k : Nat) (hk : 2097160 ≤ k) : spec_l4Of.f k s = some (txt (gp true s.data.toList)) := by
  unfold spec_l4Of.f
  have h := l4Of_l0 s hs s.size k 0 [] (by omega) (by omega) (by omega) (by simp)
  rw [List.drop_zero, List.nil_append] at h
  exact h
/-- joined lists -/
theorem jcons (x : List UInt8) (P : List (List UInt8)) (sep : List UInt8) (h : P ≠ []) : Lib.join (x :: P) sep = x ++ (sep ++ Lib.join P sep) := by
  unfold Lib.join
  cases P with
  | nil => exact absurd rfl h
  | cons y P => simp [List.intercalate, List.intersperse]
theorem join_len (sep : List UInt8) (B : Nat) : ∀ L : List (List UInt8), (∀ x ∈ L, x.length ≤ B) → (Lib.join L sep).length ≤ L.length * (B + sep.length)
  | [], _ => by simp [Lib.join_nil]
  | [x], h => by
    rw [Lib.join_one]
    have := h x (by simp)
    simp only [List.length_cons, List.length_nil, Nat.zero_add, Nat.one_mul]; omega
  | x :: y :: r, h => by
    have h1 := h x (by simp)
    have h2 := join_len sep B (y :: r) (fun z hz => h z (by simp [hz]))
    rw [jcons x (y :: r) sep (by simp), List.length_append, List.length_append, List.length_cons, Nat.succ_mul]
    omega
theorem sJoin_ok (L : List (List UInt8)) (sep : List UInt8) (hn : L.length ≤ 1000) (hx : ∀ x ∈ L, x.length ≤ 1000000) (hs : sep.length ≤ 7) : strings_Join.f (L.map txt) (txt sep) = some (txt (Lib.join L sep)) := by
  unfold strings_Join.f
  have e : (L.map txt).map (fun z => z.data.toList) = L := by
    rw [List.map_map]
    exact List.map_id _
  rw [e, txt_data, List.length_map, if_pos (by omega)]
  have h1 := join_len sep 1000000 L hx
  have h2 : L.length * (1000000 + sep.length) ≤ 1000 * 1000007 := Nat.mul_le_mul hn (by omega)
  rw [if_pos (by omega)]
  rfl
def letL (m : ByteArray) : List UInt8 := Lib.join (m.data.toList.map mkc) [48]
def wordLn (w : List ByteArray) : List UInt8 := Lib.join (w.map letL) [48, 48, 48]
def sigLn (W : List (List ByteArray)) : List UInt8 := Lib.join (W.map wordLn) [48, 48, 48, 48, 48, 48, 48]
/-- the reference's line is the joined one -/
theorem gp_app32 (r : List UInt8) : ∀ (l : List UInt8) (st : Bool), gp st (l ++ 32 :: r) = gp st l ++ ([48, 48, 48] ++ gp true r)
  | [], st => by simp [gp]
  | c :: l, st => by
    simp only [List.cons_append, gp]
    split
    · rw [gp_app32 r l true]; simp
    · split
      · rw [gp_app32 r l true]; simp
      · rw [gp_app32 r l false]; simp
theorem gp_app47 (r : List UInt8) : ∀ (l : List UInt8) (st : Bool), gp st (l ++ 47 :: r) = gp st l ++ ([48, 48, 48, 48, 48, 48, 48] ++ gp true r)
  | [], st => by simp [gp]
  | c :: l, st => by
    simp only [List.cons_append, gp]
    split
    · rw [gp_app47 r l true]; simp
    · split
      · rw [gp_app47 r l true]; simp
      · rw [gp_app47 r l false]; simp
theorem gp_join32 : ∀ L : List (List UInt8), gp true (Lib.join L [32]) = Lib.join (L.map (gp true)) [48, 48, 48]
  | [] => rfl
  | [x] => by rw [Lib.join_one, List.map_cons, List.map_nil, Lib.join_one]
  | x :: y :: r => by
    rw [jcons x (y :: r) [32] (by simp), List.map_cons, jcons (gp true x) _ _ (by simp), List.singleton_append, gp_app32, gp_join32 (y :: r)]
theorem gp_join47 : ∀ L : List (List UInt8), gp true (Lib.join L [47]) = Lib.join (L.map (gp true)) [48, 48, 48, 48, 48, 48, 48]
  | [] => rfl
  | [x] => by rw [Lib.join_one, List.map_cons, List.map_nil, Lib.join_one]
  | x :: y :: r => by
    rw [jcons x (y :: r) [47] (by simp), List.map_cons, jcons (gp true x) _ _ (by simp), List.singleton_append, gp_app47, gp_join47 (y :: r)]
theorem dd_not {c : UInt8} (h : dotDash c = true) : ¬ c = 32 ∧ ¬ c = 47 := by
  constructor
  · intro e; subst e; exact absurd h (by decide)
  · intro e; subst e; exact absurd h (by decide)
theorem gp_letter : ∀ (l : List UInt8) (c : UInt8), dotDash c = true → l.all dotDash = true → gp true (c :: l) = Lib.join ((c :: l).map mkc) [48]
  | [], c, hc, _ => by
    have h := dd_not hc
    simp only [gp, h.1, h.2, if_false, if_true, List.nil_append, List.append_nil, List.map_cons, List.map_nil, Lib.join_one]
  | d :: l, c, hc, hl => by
    simp only [List.all_cons, Bool.and_eq_true] at hl
    have h := dd_not hc
    have h' := dd_not hl.1
    have ih := gp_letter l d hl.1 hl.2
    rw [List.map_cons, jcons _ _ _ (by simp), ← ih]
    simp only [gp, h.1, h.2, h'.1, h'.2, if_false, if_true, List.nil_append, Bool.false_eq_true, List.append_assoc]
theorem gp_mk (m : ByteArray) (h : isMk m 1 5 = true) : gp true m.data.toList = letL m := by
  simp only [isMk, Bool.and_eq_true, decide_eq_true_eq] at h
  have hz := size_data m
  unfold letL
  cases hl : m.data.toList with
  | nil => rw [hl] at hz; simp at hz; omega
  | cons c l =>
    have h2 := h.2
    rw [hl, List.all_cons, Bool.and_eq_true] at h2
    exact gp_letter l c h2.1 h2.2
/-- a text is its pieces joined -/
theorem pieces_step2 (s : ByteArray) (c : UInt8) : pieces s c = [s] ∨ ∃ o : Nat, o < s.size ∧ s.data.toList[o]? = some c ∧ pieces s c = s.extract 0 o :: pieces (s.extract (o + 1) s.size) c := by
  have hsz := size_data s
  have hge := Lib.indexByte_ge s.data.toList c
  by_cases hn : Lib.indexByte s.data.toList c = -1
  · refine Or.inl (Lib.splitB_miss _ _ _ _ ?_)
    rw [strings_Split.idx]; exact hn
  · obtain ⟨o, ho⟩ : ∃ o : Nat, Lib.indexByte s.data.toList c = (o : Int) := ⟨(Lib.indexByte s.data.toList c).toNat, by omega⟩
    have h1 := (Lib.indexByte_some ho).1
    have hlt : o < s.size := by rw [← hsz]; exact (List.getElem?_eq_some_iff.1 h1).1
    have hi : Lib.indexB s ⟨#[c]⟩ = (o : Int) := by rw [strings_Split.idx]; exact ho
    refine Or.inr ⟨o, hlt, h1, ?_⟩
    unfold pieces
    rw [Lib.countB_hit s (⟨#[c]⟩ : ByteArray) o (Nat.le_refl 1) hi, Nat.add_comm, Lib.splitB_hit _ _ _ _ _ hi]
    rfl
theorem pieces_ne (s : ByteArray) (c : UInt8) : pieces s c ≠ [] := by
  rcases pieces_step2 s c with h | ⟨o, _, _, h⟩
  · rw [h]; simp
  · rw [h]; simp
theorem pieces_joined (c : UInt8) : ∀ (n : Nat) (s : ByteArray), s.size ≤ n → s.data.toList = Lib.join ((pieces s c).map fun z => z.data.toList) [c] := by
  intro n
  induction n with
  | zero =>
    intro s hs
    rcases pieces_step2 s c with h | ⟨o, ho, _, h⟩
    · rw [h, List.map_cons, List.map_nil, Lib.join_one]
    · omega
  | succ n ih =>
    intro s hs
    rcases pieces_step2 s c with h | ⟨o, ho, hc, h⟩
    · rw [h, List.map_cons, List.map_nil, Lib.join_one]
    · have hz := size_data s
      have hlt : o < s.data.toList.length := by omega
      have e0 : (s.extract 0 o).data.toList = s.data.toList.take o := by
        rw [ByteArray.data_extract, Array.toList_extract, List.extract_eq_take_drop, List.drop_zero, Nat.sub_zero]
      rw [h, List.map_cons, jcons _ _ _ (by simp [pieces_ne]), ← ih (s.extract (o + 1) s.size) (by rw [ByteArray.size_extract]; omega), e0, ext_list]
      have e1 : s.data.toList[o] = c := by rw [List.getElem?_eq_getElem hlt] at hc; exact Option.some.inj hc
      have e2 : s.data.toList.drop o = c :: s.data.toList.drop (o + 1) := by rw [List.drop_eq_getElem_cons hlt, e1]
      rw [List.singleton_append, ← e2, List.take_append_drop]
theorem gp_sig (s : ByteArray) (h : okW (wordsL s) = true) : gp true s.data.toList = sigLn (wordsL s) := by
  rw [pieces_joined 47 s.size s (Nat.le_refl _), gp_join47]
  unfold sigLn wordsL
  rw [List.map_map, List.map_map]
  congr 1
  refine List.map_congr_left fun w hw => ?_
  have hw2 : okL (pieces w 32) = true := List.all_eq_true.1 h _ (List.mem_map.2 ⟨w, hw, rfl⟩)
  simp only [Function.comp]
  rw [pieces_joined 32 w.size w (Nat.le_refl _), gp_join32]
  unfold wordLn
  rw [List.map_map]
  congr 1
  refine List.map_congr_left fun m hm => ?_
  exact gp_mk m (List.all_eq_true.1 hw2 _ hm)
/-- the program's loops -/
theorem letL_len (m : ByteArray) (h : isMk m 1 5 = true) : (letL m).length ≤ 20 := by
  simp only [isMk, Bool.and_eq_true, decide_eq_true_eq] at h
  have hz := size_data m
  unfold letL
  have := join_len [48] 3 (m.data.toList.map mkc) (fun x hx => by
    obtain ⟨c, _, rfl⟩ := List.mem_map.1 hx
    exact (mkc_len c).2)
  rw [List.length_map] at this
  have e : ([48] : List UInt8).length = 1 := rfl
  rw [e] at this
  omega
theorem look_eq (m : ByteArray) (t : Nat) (ht : t < m.size) (c : UInt8) (hc : m.data.toList[t]'(by rw [size_data]; exact ht) = c) (hd : dotDash c = true) : maplit_Look.f (bt m (t : Int)) = some (txt (mkc c)) := by
  have b46 : (bt m (t : Int) = 46) ↔ c = 46 := by rw [bt_is m t ht 46 46 (by decide), hc]
  have b45 : (bt m (t : Int) = 45) ↔ c = 45 := by rw [bt_is m t ht 45 45 (by decide), hc]
  unfold maplit_Look.f mkc
  by_cases h : c = 46
  · rw [if_pos (b46.2 h), if_pos h]; rfl
  · have h5 : c = 45 := by
      unfold dotDash at hd
      simp only [Bool.or_eq_true, beq_iff_eq] at hd
      exact hd.resolve_left h
    rw [if_neg (fun e => h (b46.1 e)), if_pos (b45.2 h5), if_neg h]; rfl
theorem lo_l2 (x3 x6 : List ByteArray) (hx6 : x6.length < 1000) (m : ByteArray) (hm : isMk m 1 5 = true) (W : List (List ByteArray)) (n i : Int) (w : List ByteArray) (wl j : Int) (q d : Nat) : ∀ (M t : Nat), M = q + d + 1 → t ≤ m.size → m.size - t = d →
    impl_lineOf.l2 M x3 x6 m ((m.data.toList.take t).map fun c => txt (mkc c)) W n i w wl j (m.size : Int) (t : Int) = impl_lineOf.l1 q x3 (x6 ++ [txt (letL m)]) W n i w wl (wrap64 (j + 1)) := by
  have hz := size_data m
  have hm2 := hm
  simp only [isMk, Bool.and_eq_true, decide_eq_true_eq] at hm2
  induction d with
  | zero =>
    intro M t hM ht hd
    subst hM
    have hj : strings_Join.f (m.data.toList.map fun c => txt (mkc c)) (⟨#[48]⟩ : ByteArray) = some (txt (letL m)) := by
      have := sJoin_ok (m.data.toList.map mkc) [48] (by rw [List.length_map]; omega) (fun x hx => by
        obtain ⟨c, _, rfl⟩ := List.mem_map.1 hx
        have := (mkc_len c).2
        omega) (by simp)
      rw [List.map_map] at this
      exact this
    simp only [impl_lineOf.l2]
    rw [if_neg (by omega), List.take_of_length_le (by omega), hj, Option.bind_some, if_pos (by omega)]
  | succ d ih =>
    intro M t hM ht hd
    obtain ⟨M, rfl⟩ : ∃ M', M = M' + 1 := ⟨q + d + 1, by omega⟩
    have hlt : t < m.data.toList.length := by omega
    obtain ⟨c, hc⟩ : ∃ c, m.data.toList[t] = c := ⟨_, rfl⟩
    have hd2 : dotDash c = true := by rw [← hc]; exact List.all_eq_true.1 hm2.2 _ (List.getElem_mem hlt)
    have e : wrap64 ((t : Int) + 1) = ((t + 1 : Nat) : Int) := by rw [wr (by omega) (by omega)]; rfl
    have e3 : ((m.data.toList.take t).map fun c => txt (mkc c)) ++ [txt (mkc c)] = (m.data.toList.take (t + 1)).map fun c => txt (mkc c) := by
      rw [List.take_succ_eq_append_getElem hlt, List.map_append, hc]; rfl
    simp only [impl_lineOf.l2]
    rw [if_pos (by omega), show maplit_Made.f = some 0 from rfl, Option.bind_some, if_pos (by omega), if_pos (by omega), look_eq m t (by omega) c hc hd2, Option.bind_some,
      if_pos (by rw [List.length_map, List.length_take]; omega), e3, e]
    exact ih M (t + 1) (by omega) (by omega) (by omega)
def fu1 (w : List ByteArray) : Nat := (w.map fun m => m.size + 2).sum
theorem lo_l1 (x3 : List ByteArray) (hx3 : x3.length < 1000) (W : List (List ByteArray)) (n i : Int) (w : List ByteArray) (hw : okL w = true) (hwl : w.length ≤ 100) (q d : Nat) : ∀ (M j : Nat), M = q + fu1 (w.drop j) + 1 → j ≤ w.length → w.length - j = d →
    impl_lineOf.l1 M x3 ((w.take j).map fun m => txt (letL m)) W n i w (w.length : Int) (j : Int) = impl_lineOf.l0 q (x3 ++ [txt (wordLn w)]) W n (wrap64 (i + 1)) := by
  induction d with
  | zero =>
    intro M j hM hj hd
    have hjl : j = w.length := by omega
    have hdr : w.drop j = [] := by rw [hjl, List.drop_length]
    rw [hdr] at hM
    obtain rfl : M = q + 1 := hM
    have hJ : strings_Join.f (w.map fun m => txt (letL m)) (⟨#[48, 48, 48]⟩ : ByteArray) = some (txt (wordLn w)) := by
      have := sJoin_ok (w.map letL) [48, 48, 48] (by rw [List.length_map]; omega) (fun x hx => by
        obtain ⟨m, hm, rfl⟩ := List.mem_map.1 hx
        have := letL_len m (List.all_eq_true.1 hw _ hm)
        omega) (by simp)
      rw [List.map_map] at this
      exact this
    simp only [impl_lineOf.l1]
    rw [if_neg (by omega), List.take_of_length_le (by omega), hJ, Option.bind_some, if_pos (by omega)]
  | succ d ih =>
    intro M j hM hj hd
    have hlt : j < w.length := by omega
    have hdr : w.drop j = w[j] :: w.drop (j + 1) := List.drop_eq_getElem_cons hlt
    obtain ⟨m, hm⟩ : ∃ m, w[j] = m := ⟨_, rfl⟩
    have hmk : isMk m 1 5 = true := by rw [← hm]; exact List.all_eq_true.1 hw _ (List.getElem_mem hlt)
    have hfu : fu1 (m :: w.drop (j + 1)) = (m.size + 2) + fu1 (w.drop (j + 1)) := by simp [fu1]
    rw [hdr, hm, hfu] at hM
    obtain ⟨M, rfl⟩ : ∃ M', M = M' + 1 := ⟨q + ((m.size + 2) + fu1 (w.drop (j + 1))), by omega⟩
    have e3 : ((w.take j).map fun m => txt (letL m)) ++ [txt (letL m)] = (w.take (j + 1)).map fun m => txt (letL m) := by
      rw [List.take_succ_eq_append_getElem hlt, List.map_append, hm]; rfl
    simp only [impl_lineOf.l1]
    rw [if_pos (by omega), if_pos (by omega), if_pos (by omega), rdS_get w j hlt, hm]
    have h2 := lo_l2 x3 ((w.take j).map fun m => txt (letL m)) (by rw [List.length_map, List.length_take]; omega) m hmk W n i w (w.length : Int) (j : Int) (q + fu1 (w.drop (j + 1)) + 1) m.size M 0 (by omega) (by omega) (by omega)
    rw [List.take_zero, List.map_nil] at h2
    have hz0 : ((0 : Nat) : Int) = 0 := rfl
    rw [hz0] at h2
    have n := ih (q + fu1 (w.drop (j + 1)) + 1) (j + 1) rfl (by omega) (by omega)
    rw [h2, show wrap64 ((j : Int) + 1) = ((j + 1 : Nat) : Int) from by clear hM h2 n ih hfu hdr e3; rw [wr (by omega) (by omega)]; rfl, e3]
    exact n
def fu0 (W : List (List ByteArray)) : Nat := (W.map fun w => fu1 w + 2).sum
theorem lo_l0 (W : List (List ByteArray)) (hWl : W.length ≤ 100) (hW : ∀ w ∈ W, w.length ≤ 100 ∧ okL w = true) (q0 d : Nat) : ∀ (M i : Nat), M = q0 + fu0 (W.drop i) + 1 → i ≤ W.length → W.length - i = d →
    impl_lineOf.l0 M ((W.take i).map fun w => txt (wordLn w)) W (W.length : Int) (i : Int) = some (txt (sigLn W)) := by
  induction d with
  | zero =>
    intro M i hM hi hd
    have hil : i = W.length := by omega
    have hdr : W.drop i = [] := by rw [hil, List.drop_length]
    rw [hdr] at hM
    obtain rfl : M = q0 + 1 := hM
    have hJ : strings_Join.f (W.map fun w => txt (wordLn w)) (⟨#[48, 48, 48, 48, 48, 48, 48]⟩ : ByteArray) = some (txt (sigLn W)) := by
      have := sJoin_ok (W.map wordLn) [48, 48, 48, 48, 48, 48, 48] (by rw [List.length_map]; omega) (fun x hx => by
        obtain ⟨w, hw, rfl⟩ := List.mem_map.1 hx
        have h1 := hW w hw
        have h2 := join_len [48, 48, 48] 20 (w.map letL) (fun x hx => by
          obtain ⟨m, hm, rfl⟩ := List.mem_map.1 hx
          exact letL_len m (List.all_eq_true.1 h1.2 _ hm))
        rw [List.length_map] at h2
        have e3 : ([48, 48, 48] : List UInt8).length = 3 := rfl
        rw [e3] at h2
        unfold wordLn
        omega) (by simp)
      rw [List.map_map] at this
      exact this
    simp only [impl_lineOf.l0]
    rw [if_neg (by omega), List.take_of_length_le (by omega), hJ, Option.bind_some]
  | succ d ih =>
    intro M i hM hi hd
    have hlt : i < W.length := by omega
    have hdr : W.drop i = W[i] :: W.drop (i + 1) := List.drop_eq_getElem_cons hlt
    obtain ⟨w, hw⟩ : ∃ w, W[i] = w := ⟨_, rfl⟩
    have hok := hW w (by rw [← hw]; exact List.getElem_mem hlt)
    have hfu : fu0 (w :: W.drop (i + 1)) = (fu1 w + 2) + fu0 (W.drop (i + 1)) := by simp [fu0]
    rw [hdr, hw, hfu] at hM
    obtain ⟨M, rfl⟩ : ∃ M', M = M' + 1 := ⟨q0 + ((fu1 w + 2) + fu0 (W.drop (i + 1))), by omega⟩
    have e3 : ((W.take i).map fun w => txt (wordLn w)) ++ [txt (wordLn w)] = (W.take (i + 1)).map fun w => txt (wordLn w) := by
      rw [List.take_succ_eq_append_getElem hlt, List.map_append, hw]; rfl
    simp only [impl_lineOf.l0]
    rw [if_pos (by omega), if_pos (by omega), if_pos (by omega), rdL_get W i hlt, hw]
    have h1 := lo_l1 ((W.take i).map fun w => txt (wordLn w)) (by rw [List.length_map, List.length_take]; omega) W (W.length : Int) (i : Int) w hok.2 hok.1 (q0 + fu0 (W.drop (i + 1)) + 1) w.length M 0 (by rw [List.drop_zero]; omega) (by omega) (by omega)
    rw [List.take_zero, List.map_nil] at h1
    have hz0 : ((0 : Nat) : Int) = 0 := rfl
    rw [hz0] at h1
    have n := ih (q0 + fu0 (W.drop (i + 1)) + 1) (i + 1) rfl (by omega) (by omega)
    rw [h1, show wrap64 ((i : Int) + 1) = ((i + 1 : Nat) : Int) from by clear hM h1 n ih hfu hdr e3; rw [wr (by omega) (by omega)]; rfl, e3]
    exact n
theorem fu1_le (w : List ByteArray) (h : okL w = true) : fu1 w ≤ 7 * w.length := by
  induction w with
  | nil => simp [fu1]
  | cons m w ih =>
    simp only [okL, List.all_cons, Bool.and_eq_true] at h
    have h1 := h.1
    simp only [isMk, Bool.and_eq_true, decide_eq_true_eq] at h1
    have h2 := ih h.2
    simp only [fu1, List.map_cons, List.sum_cons, List.length_cons] at h2 ⊢
    omega
theorem fu0_le (W : List (List ByteArray)) (h : okW W = true) : fu0 W ≤ 7 * cntW W + 2 * W.length := by
  induction W with
  | nil => simp [fu0]
  | cons w W ih =>
    simp only [okW, List.all_cons, Bool.and_eq_true] at h
    have h1 := fu1_le w h.1
    have h2 := ih h.2
    rw [cntW_cons]
    simp only [fu0, List.map_cons, List.sum_cons, List.length_cons] at h2 ⊢
    omega
theorem sig_small (s : ByteArray) (h0 : s.size ≠ 0) (h : isSig s = true) : okW (wordsL s) = true ∧ cntW (wordsL s) + (wordsL s).length ≤ 13 := by
  unfold isSig at h
  rw [if_neg h0] at h
  by_cases h72 : s.size > 72
  · rw [if_pos h72] at h; cases h
  · rw [if_neg h72] at h
    simp only [Bool.and_eq_true, decide_eq_true_eq] at h
    exact ⟨h.1, by omega⟩
theorem cnt_mem : ∀ (W : List (List ByteArray)) (w : List ByteArray), w ∈ W → w.length ≤ cntW W
  | [], _, h => by cases h
  | a :: W, w, h => by
    rw [cntW_cons]
    rcases List.mem_cons.1 h with h | h
    · rw [h]; omega
    · have := cnt_mem W w h; omega
theorem lineOf_eq (s : ByteArray) (hs : s.size ≤ 1048576) (h : isSig s = true) (k : Nat) (hk : 2097160 ≤ k) : impl_lineOf.f k s = some (txt (gp true s.data.toList)) := by
  unfold impl_lineOf.f
  rw [lettersOf_eq s hs k (by omega), Option.bind_some]
  by_cases h0 : s.size = 0
  · have w0 : wordsI s = [] := by unfold wordsI; rw [if_pos h0]
    have hl : s.data.toList = [] := List.eq_nil_of_length_eq_zero (by rw [size_data]; exact h0)
    rw [w0, hl]
    exact lo_l0 [] (by simp) (by simp) (k - 1) 0 k 0 (by simp [fu0]; omega) (by simp) (by simp)
  · have w0 : wordsI s = wordsL s := by unfold wordsI; rw [if_neg h0]
    obtain ⟨ok, sm⟩ := sig_small s h0 h
    have hf := fu0_le (wordsL s) ok
    rw [w0, gp_sig s ok]
    exact lo_l0 (wordsL s) (by omega) (fun w hw => ⟨by have := cnt_mem _ w hw; omega, List.all_eq_true.1 ok w hw⟩) (k - fu0 (wordsL s) - 1) (wordsL s).length k 0 (by rw [List.drop_zero]; omega) (by omega) (by omega)
/-! the runs of a line -/
def rstep (x : List S36) (c : UInt8) : List S36 :=
  match x.getLast? with
  | none => [⟨(c.toNat : Int) - 48, 1⟩]
  | some p => if p.f0 = (c.toNat : Int) - 48 then x.dropLast ++ [⟨p.f0, p.f1 + 1⟩] else x ++ [⟨(c.toNat : Int) - 48, 1⟩]
def rns (l : List UInt8) : List S36 := l.foldl rstep []
theorem rns_nil : rns [] = [] := rfl
theorem rns_snoc (t : List UInt8) (c : UInt8) : rns (t ++ [c]) = rstep (rns t) c := by simp [rns]
theorem snoc_of {α : Type} (t : List α) (h : t ≠ []) : ∃ u c, t = u ++ [c] := ⟨t.dropLast, t.getLast h, (List.dropLast_concat_getLast h).symm⟩
theorem rstep_snoc (x : List S36) (p : S36) (c : UInt8) : rstep (x ++ [p]) c = if p.f0 = (c.toNat : Int) - 48 then x ++ [⟨p.f0, p.f1 + 1⟩] else x ++ [p] ++ [⟨(c.toNat : Int) - 48, 1⟩] := by
  simp only [rstep, List.getLast?_append, List.getLast?_singleton, Option.some_or, List.dropLast_concat]
/-- a run of a line that ends in b is the last one, of b -/
theorem rns_last (t : List UInt8) : ∀ (u : List UInt8) (b : UInt8), t = u ++ [b] → ∃ (x : List S36) (n : Int), rns t = x ++ [⟨(b.toNat : Int) - 48, n⟩] ∧ 1 ≤ n ∧ n ≤ (t.length : Int) := by
  induction hl : t.length generalizing t with
  | zero => intro u b h; rw [h] at hl; simp at hl
  | succ d ih =>
    intro u b h
    subst h
    rw [rns_snoc]
    by_cases hu : u = []
    · subst hu
      exact ⟨[], 1, rfl, by omega, by simp at hl ⊢; omega⟩
    · obtain ⟨v, c, rfl⟩ := snoc_of u hu
      have hd : (v ++ [c]).length = d := by simpa using hl
      obtain ⟨x, n, hx, h1, h2⟩ := ih (v ++ [c]) hd v c rfl
      rw [hx, rstep_snoc]
      by_cases hc : (c.toNat : Int) - 48 = (b.toNat : Int) - 48
      · exact ⟨x, n + 1, by rw [if_pos hc, hc], by omega, by omega⟩
      · exact ⟨x ++ [⟨(c.toNat : Int) - 48, n⟩], 1, by rw [if_neg hc], by omega, by omega⟩
theorem rns_ne (t : List UInt8) (h : t ≠ []) : rns t ≠ [] := by
  obtain ⟨u, c, rfl⟩ := snoc_of t h
  obtain ⟨x, n, hx, _⟩ := rns_last _ u c rfl
  rw [hx]; simp
theorem rstep_len (x : List S36) (c : UInt8) : (rstep x c).length ≤ x.length + 1 := by
  by_cases h : x = []
  · subst h; simp [rstep]
  · obtain ⟨y, p, rfl⟩ := snoc_of x h
    rw [rstep_snoc]
    split <;> simp
theorem rns_len (t : List UInt8) : (rns t).length ≤ t.length := by
  induction hl : t.length generalizing t with
  | zero => rw [List.length_eq_zero_iff.1 hl]; simp [rns]
  | succ d ih =>
    obtain ⟨u, c, rfl⟩ := snoc_of t (by intro h; rw [h] at hl; simp at hl)
    have := ih u (by simpa using hl)
    have h2 := rstep_len (rns u) c
    rw [rns_snoc]; omega
/-- what holds of all runs: the sign is a byte's, and there is one at least -/
theorem rns_all (t : List UInt8) : ∀ p ∈ rns t, (∃ c ∈ t, p.f0 = (c.toNat : Int) - 48) ∧ 1 ≤ p.f1 ∧ p.f1 ≤ (t.length : Int) := by
  induction hl : t.length generalizing t with
  | zero => rw [List.length_eq_zero_iff.1 hl]; simp [rns]
  | succ d ih =>
    obtain ⟨u, c, rfl⟩ := snoc_of t (by intro h; rw [h] at hl; simp at hl)
    have hu : u.length = d := by simpa using hl
    have I := ih u hu
    rw [rns_snoc]
    by_cases h : rns u = []
    · rw [h]
      intro p hp
      obtain rfl : p = ⟨(c.toNat : Int) - 48, 1⟩ := by simpa [rstep] using hp
      exact ⟨⟨c, by simp, rfl⟩, by show (1 : Int) ≤ 1; omega, by show (1 : Int) ≤ _; omega⟩
    · obtain ⟨y, q, hq⟩ := snoc_of _ h
      rw [hq, rstep_snoc]
      intro p hp
      have old : ∀ p ∈ y ++ [q], (∃ c' ∈ u ++ [c], p.f0 = (c'.toNat : Int) - 48) ∧ 1 ≤ p.f1 ∧ p.f1 ≤ ((d : Nat) : Int) := fun p hp => by
        obtain ⟨⟨c', h1, h2⟩, h3, h4⟩ := I p (by rw [hq]; exact hp)
        exact ⟨⟨c', by simp [h1], h2⟩, h3, by omega⟩
      have hqo := old q (by simp)
      split at hp
      · rename_i he
        rcases List.mem_append.1 hp with h1 | h1
        · obtain ⟨a, b, e⟩ := old p (by simp [h1]); exact ⟨a, b, by omega⟩
        · obtain rfl : p = ⟨q.f0, q.f1 + 1⟩ := by simpa using h1
          refine ⟨⟨c, by simp, he⟩, ?_, ?_⟩
          · show (1 : Int) ≤ q.f1 + 1; omega
          · show q.f1 + 1 ≤ _; omega
      · rcases List.mem_append.1 hp with h1 | h1
        · obtain ⟨a, b, e⟩ := old p h1; exact ⟨a, b, by omega⟩
        · obtain rfl : p = ⟨(c.toNat : Int) - 48, 1⟩ := by simpa using h1
          exact ⟨⟨c, by simp, rfl⟩, by show (1 : Int) ≤ 1; omega, by show (1 : Int) ≤ _; omega⟩
/-! the line of runs -/
def rbyte (f : Int) : UInt8 := UInt8.ofNat (f + 48).toNat
def expd (x : List S36) : List UInt8 := x.flatMap fun p => List.replicate p.f1.toNat (rbyte p.f0)
theorem expd_nil : expd [] = [] := rfl
theorem expd_snoc (x : List S36) (p : S36) : expd (x ++ [p]) = expd x ++ List.replicate p.f1.toNat (rbyte p.f0) := by simp [expd]
theorem rbyte_of (c : UInt8) : rbyte ((c.toNat : Int) - 48) = c := by
  unfold rbyte
  rw [show (c.toNat : Int) - 48 + 48 = (c.toNat : Int) by omega, Int.toNat_natCast]
  simp
theorem expd_rns (t : List UInt8) : expd (rns t) = t := by
  induction hl : t.length generalizing t with
  | zero => rw [List.length_eq_zero_iff.1 hl]; rfl
  | succ d ih =>
    obtain ⟨u, c, rfl⟩ := snoc_of t (by intro h; rw [h] at hl; simp at hl)
    have I := ih u (by simpa using hl)
    rw [rns_snoc]
    by_cases hu : u = []
    · subst hu
      show expd [⟨(c.toNat : Int) - 48, 1⟩] = _
      simp [expd, rbyte_of]
    · obtain ⟨v, b, rfl⟩ := snoc_of u hu
      obtain ⟨x, n, hx, h1, _⟩ := rns_last _ v b rfl
      rw [hx, expd_snoc] at I
      rw [hx, rstep_snoc]
      simp only [rbyte_of] at I
      split
      · rename_i he
        obtain rfl : b = c := by apply UInt8.toNat_inj.1; simp only at he; omega
        rw [expd_snoc]
        simp only [rbyte_of]
        rw [show (n + 1).toNat = n.toNat + 1 by omega, List.replicate_succ', ← List.append_assoc, I]
      · rw [expd_snoc, expd_snoc]
        simp only [rbyte_of]
        rw [I]; rfl
/-! both sides' runs of a line -/
theorem onOff_of {L : List UInt8} (h : L.all onOff = true) {c : UInt8} (hc : c ∈ L) : c = 48 ∨ c = 49 := by
  have := List.all_eq_true.1 h c hc
  simpa [onOff] using this
theorem sign_of {c : UInt8} (h : c = 48 ∨ c = 49) : ((c.toNat : Int) - 48) % 256 = (c.toNat : Int) - 48 := by
  rcases h with rfl | rfl <;> decide
theorem last_at (x : List S36) (p : S36) (hx : x.length ≤ 1048576) : wrap64 (((x ++ [p]).length : Int) - 1) = (x.length : Int) := by
  rw [List.length_append, List.length_singleton, wr (by omega) (by omega)]; omega
theorem last_rd (x : List S36) (p : S36) : rd_T36 (x ++ [p]) (x.length : Int) = p := by simp [rd_T36]
theorem last_set (x : List S36) (p q : S36) : (x ++ [p]).set x.length q = x ++ [q] := by simp
theorem take_snocU (L : List UInt8) (i : Nat) (h : i < L.length) : L.take (i + 1) = L.take i ++ [L[i]] := List.take_succ_eq_append_getElem h
/-- the state behind a step -/
theorem step_of (L : List UInt8) (i : Nat) (h : i + 1 < L.length) : ∃ (x : List S36) (n : Int), 1 ≤ n ∧ n ≤ ((i : Int) + 1) ∧ rns (L.take (i + 1)) = x ++ [⟨(L[i].toNat : Int) - 48, n⟩] ∧
    rns (L.take (i + 2)) = if L[i + 1] = L[i] then x ++ [⟨(L[i].toNat : Int) - 48, n + 1⟩] else x ++ [⟨(L[i].toNat : Int) - 48, n⟩] ++ [⟨(L[i + 1].toNat : Int) - 48, 1⟩] := by
  obtain ⟨x, n, hx, h1, h2⟩ := rns_last (L.take (i + 1)) (L.take i) L[i] (take_snocU L i (by omega))
  refine ⟨x, n, h1, by rw [List.length_take] at h2; omega, hx, ?_⟩
  rw [take_snocU L (i + 1) h, rns_snoc, hx, rstep_snoc]
  by_cases he : L[i + 1] = L[i]
  · rw [if_pos he, if_pos (by simp only [he])]
  · rw [if_neg he, if_neg (by
      intro e; apply he; apply UInt8.toNat_inj.1; simp only at e; omega)]
theorem rns_take_len (L : List UInt8) (i : Nat) : (rns (L.take i)).length ≤ i := by
  have := rns_len (L.take i)
  rw [List.length_take] at this; omega
theorem isLn_all {s : ByteArray} (h : isLn s = true) : s.size ≤ 200 ∧ s.data.toList.all onOff = true := by
  simpa [isLn] using h
theorem sRuns_l0 (s : ByteArray) (hs : s.size ≤ 1048576) (hb : s.data.toList.all onOff = true) (d : Nat) : ∀ (k i : Nat), i ≤ s.size → s.size - i = d → d < k →
    spec_l4Runs.l0 k s (rns (s.data.toList.take i)) (i : Int) = some (rns s.data.toList) := by
  have hsz := size_data s
  induction d with
  | zero =>
    intro k i hi hd hk
    obtain ⟨k, rfl⟩ := pred_of_lt hk
    simp only [spec_l4Runs.l0]
    rw [if_neg (by omega), List.take_of_length_le (by omega)]
  | succ d ih =>
    intro k i hi hd hk
    obtain ⟨k, rfl⟩ := pred_of_lt hk
    have hlt : i < s.data.toList.length := by omega
    have n := ih k (i + 1) (by omega) (by omega) (by omega)
    have e1 : wrap64 ((i : Int) + 1) = ((i + 1 : Nat) : Int) := by rw [wr (by omega) (by omega)]; omega
    have hm := onOff_of hb (List.getElem_mem hlt)
    have hlen := rns_take_len s.data.toList i
    simp only [spec_l4Runs.l0, e1]
    rw [if_pos (by omega)]
    by_cases h0 : (i : Int) > 0
    · obtain ⟨j, rfl⟩ : ∃ j, i = j + 1 := ⟨i - 1, by omega⟩
      obtain ⟨x, m, h1, h2, hx, hy⟩ := step_of s.data.toList j (by omega)
      have e2 : wrap64 (((j + 1 : Nat) : Int) - 1) = ((j : Nat) : Int) := by clear e1; rw [wr (by omega) (by omega)]; omega
      rw [if_pos h0, if_pos (by omega), e2, if_pos (by omega), if_pos (by omega), bt_nat s (j + 1) (by omega), bt_nat s j (by omega)]
      rw [hy] at n
      by_cases he : s.data.toList[j + 1] = s.data.toList[j]
      · rw [if_pos he] at n
        rw [if_pos (by rw [he]), hx]
        have hxl : x.length ≤ 1048576 := by rw [hx, List.length_append] at hlen; omega
        rw [last_at x _ hxl, if_pos (by omega), if_pos (by rw [List.length_append, List.length_singleton]; omega), last_rd, Int.toNat_natCast, last_set, wr (i := m + 1) (by omega) (by omega)]
        exact n
      · rw [if_neg he] at n
        rw [if_neg (by intro e; apply he; apply UInt8.toNat_inj.1; omega), if_pos (by omega), sign_of hm, hx]
        exact n
    · obtain rfl : i = 0 := by omega
      rw [if_neg h0, if_pos (by omega), if_pos (by omega), bt_nat s 0 (by omega), sign_of hm]
      have : rns (s.data.toList.take 1) = rns (s.data.toList.take 0) ++ [⟨(s.data.toList[0].toNat : Int) - 48, 1⟩] := by
        rw [take_snocU s.data.toList 0 hlt, rns_snoc]; rfl
      rw [← this]; exact n
theorem sRuns_eq (s : ByteArray) (hs : s.size ≤ 1048576) (hb : s.data.toList.all onOff = true) (k : Nat) (hk : s.size < k) : spec_l4Runs.f k s = some (rns s.data.toList) :=
  sRuns_l0 s hs hb s.size k 0 (by omega) (by omega) hk
theorem iRuns_l0 (s : ByteArray) (hs : s.size ≤ 1048576) (hb : s.data.toList.all onOff = true) (d : Nat) : ∀ (k i : Nat), i ≤ s.size → s.size - i = d → d < k →
    impl_runsOf.l0 k s (rns (s.data.toList.take i)) (s.size : Int) (i : Int) = some (rns s.data.toList) := by
  have hsz := size_data s
  induction d with
  | zero =>
    intro k i hi hd hk
    obtain ⟨k, rfl⟩ := pred_of_lt hk
    simp only [impl_runsOf.l0]
    rw [if_neg (by omega), List.take_of_length_le (by omega)]
  | succ d ih =>
    intro k i hi hd hk
    obtain ⟨k, rfl⟩ := pred_of_lt hk
    have hlt : i < s.data.toList.length := by omega
    have n := ih k (i + 1) (by omega) (by omega) (by omega)
    have e1 : wrap64 ((i : Int) + 1) = ((i + 1 : Nat) : Int) := by rw [wr (by omega) (by omega)]; omega
    have hm := onOff_of hb (List.getElem_mem hlt)
    have hlen := rns_take_len s.data.toList i
    simp only [impl_runsOf.l0, e1, Option.bind_some]
    rw [if_pos (by omega)]
    by_cases h0 : (i : Int) = 0
    · obtain rfl : i = 0 := by omega
      rw [if_pos (by omega), if_pos (by omega), if_pos (by omega), bt_nat s 0 (by omega), sign_of hm]
      have : rns (s.data.toList.take 1) = rns (s.data.toList.take 0) ++ [⟨(s.data.toList[0].toNat : Int) - 48, 1⟩] := by
        rw [take_snocU s.data.toList 0 hlt, rns_snoc]; rfl
      have hz : (rns (s.data.toList.take 0)).length ≤ 1048576 := by omega
      rw [if_pos (by omega), last_at _ _ hz, if_pos (by omega), if_pos (by rw [List.length_append, List.length_singleton]; omega), last_rd, Int.toNat_natCast, last_set, wr (i := 0 + 1) (by omega) (by omega), Int.zero_add, ← this]
      exact n
    · obtain ⟨j, rfl⟩ : ∃ j, i = j + 1 := ⟨i - 1, by omega⟩
      obtain ⟨x, m, h1, h2, hx, hy⟩ := step_of s.data.toList j (by omega)
      have e2 : wrap64 (((j + 1 : Nat) : Int) - 1) = ((j : Nat) : Int) := by clear e1; rw [wr (by omega) (by omega)]; omega
      rw [if_neg h0, if_pos (by omega), if_pos (by omega), e2, if_pos (by omega), if_pos (by omega), bt_nat s (j + 1) (by omega), bt_nat s j (by omega)]
      rw [hy] at n
      by_cases he : s.data.toList[j + 1] = s.data.toList[j]
      · rw [if_pos he] at n
        rw [if_pos (by rw [he]), hx]
        have hxl : x.length ≤ 1048576 := by rw [hx, List.length_append] at hlen; omega
        rw [last_at x _ hxl, if_pos (by omega), if_pos (by rw [List.length_append, List.length_singleton]; omega), last_rd, Int.toNat_natCast, last_set, wr (i := m + 1) (by omega) (by omega)]
        exact n
      · rw [if_neg he] at n
        have hz : (rns (s.data.toList.take (j + 1))).length ≤ 1048576 := by omega
        rw [if_neg (by intro e; apply he; apply UInt8.toNat_inj.1; omega), if_pos (by omega), sign_of hm, last_at _ _ hz, if_pos (by omega), if_pos (by rw [List.length_append, List.length_singleton]; omega), last_rd, Int.toNat_natCast, last_set, wr (i := 0 + 1) (by omega) (by omega), Int.zero_add, hx]
        exact n
theorem iRuns_eq (s : ByteArray) (hs : s.size ≤ 1048576) (hb : s.data.toList.all onOff = true) (k : Nat) (hk : s.size < k) : impl_runsOf.f k s = some (rns s.data.toList) :=
  iRuns_l0 s hs hb s.size k 0 (by omega) (by omega) hk
theorem rstep_head (x : List S36) (c : UInt8) (g : Int) (h : ∃ n, x.head? = some ⟨g, n⟩) : ∃ n, (rstep x c).head? = some ⟨g, n⟩ := by
  obtain ⟨n, h⟩ := h
  have hne : x ≠ [] := by intro e; rw [e] at h; cases h
  obtain ⟨y, p, rfl⟩ := snoc_of x hne
  rw [rstep_snoc]
  cases y with
  | nil =>
    obtain rfl : p = ⟨g, n⟩ := by simpa using h
    split
    · exact ⟨n + 1, rfl⟩
    · exact ⟨n, rfl⟩
  | cons q y =>
    obtain rfl : q = ⟨g, n⟩ := by simpa using h
    split
    · exact ⟨n, rfl⟩
    · exact ⟨n, rfl⟩
theorem rns_head (d : UInt8) (w : List UInt8) : ∃ n, (rns (d :: w)).head? = some ⟨(d.toNat : Int) - 48, n⟩ := by
  induction hl : w.length generalizing w with
  | zero => rw [List.length_eq_zero_iff.1 hl]; exact ⟨1, rfl⟩
  | succ k ih =>
    obtain ⟨u, c, rfl⟩ := snoc_of w (by intro h; rw [h] at hl; simp at hl)
    rw [← List.cons_append, rns_snoc]
    exact rstep_head _ _ _ (ih u (by simpa using hl))
/-! the runs of a line without a first and a last one of zeros -/
theorem rstep_pre (a x : List S36) (c : UInt8) (h : x ≠ []) : rstep (a ++ x) c = a ++ rstep x c := by
  obtain ⟨y, p, rfl⟩ := snoc_of x h
  rw [← List.append_assoc, rstep_snoc, rstep_snoc]
  split <;> simp
theorem rns_append (t : List UInt8) (ht : t ≠ []) (b : UInt8) (hb : t.getLast ht = b) (u : List UInt8) : ∀ (hu : u ≠ []), u.head hu ≠ b → rns (t ++ u) = rns t ++ rns u := by
  induction hl : u.length generalizing u with
  | zero => intro hu; exact absurd (List.length_eq_zero_iff.1 hl) hu
  | succ d ih =>
    intro hu hh
    obtain ⟨v, c, rfl⟩ := snoc_of u hu
    rw [← List.append_assoc, rns_snoc, rns_snoc]
    by_cases hv : v = []
    · subst hv
      obtain ⟨x, n, hx, _⟩ := rns_last t t.dropLast b (by rw [← hb]; exact (List.dropLast_concat_getLast ht).symm)
      have hcb : c ≠ b := by simpa using hh
      rw [List.append_nil, hx, rstep_snoc, if_neg (by
        intro e; apply hcb; apply UInt8.toNat_inj.1; simp only at e; omega)]
      rfl
    · rw [ih v (by simpa using hl) hv (by simpa [List.head_append_of_ne_nil hv] using hh), rstep_pre _ _ _ (rns_ne v hv)]
theorem rns_rep (c : UInt8) : ∀ n, rns (List.replicate (n + 1) c) = [⟨(c.toNat : Int) - 48, (n : Int) + 1⟩]
  | 0 => rfl
  | n + 1 => by
    rw [List.replicate_succ', rns_snoc, rns_rep c n]
    show rstep ([] ++ [_]) c = _
    rw [rstep_snoc, if_pos rfl]
    simp
def isZ (p : S36) : Bool := decide (p.f0 = 0)
/-- what the reference takes off -/
def cutA (x : List S36) : Nat := match x.head? with | some p => if p.f0 = 0 then 1 else 0 | none => 0
def cutB (x : List S36) : Nat := match x.getLast? with | some p => if p.f0 = 0 ∧ cutA x < x.length then x.length - 1 else x.length | none => 0
def inner (x : List S36) : List S36 := (x.drop (cutA x)).take (cutB x - cutA x)
theorem inner_of (A M B : List S36) (hA : A = [] ∨ ∃ n, A = [⟨0, n⟩]) (hB : B = [] ∨ ∃ n, B = [⟨0, n⟩]) (hM : M ≠ []) (h1 : (M.head hM).f0 ≠ 0) (h2 : (M.getLast hM).f0 ≠ 0) : inner (A ++ M ++ B) = M := by
  have hl : 0 < M.length := List.length_pos_iff.2 hM
  have ca : cutA (A ++ M ++ B) = A.length := by
    rcases hA with rfl | ⟨n, rfl⟩
    · unfold cutA
      rw [List.nil_append, List.head?_append, List.head?_eq_some_head hM]
      simp [h1]
    · simp [cutA]
  have cb : cutB (A ++ M ++ B) = A.length + M.length := by
    unfold cutB
    rw [ca]
    rcases hB with rfl | ⟨n, rfl⟩
    · rw [List.append_nil, List.getLast?_append, List.getLast?_eq_some_getLast hM]
      simp [h2]
    · rw [List.getLast?_append]
      simp
  unfold inner
  rw [ca, cb, List.append_assoc, List.drop_left]
  rw [show A.length + M.length - A.length = M.length by omega, List.take_left]
theorem inner_zero (c : UInt8) (hc : c = 48) (n : Nat) : inner (rns (List.replicate n c)) = [] := by
  subst hc
  cases n with
  | zero => rfl
  | succ n => rw [rns_rep]; simp [inner, cutA, cutB]
theorem dropWhile_rep (c : UInt8) : ∀ l : List UInt8, ∃ n, l = List.replicate n c ++ l.dropWhile (· == c)
  | [] => ⟨0, rfl⟩
  | b :: l => by
    obtain ⟨n, hn⟩ := dropWhile_rep c l
    by_cases h : b = c
    · subst h
      refine ⟨n + 1, ?_⟩
      rw [List.dropWhile_cons_of_pos (by simp), List.replicate_succ, List.cons_append, ← hn]
    · exact ⟨0, by rw [List.dropWhile_cons_of_neg (by simpa using h)]; rfl⟩
def trm (l : List UInt8) : List UInt8 := ((l.reverse.dropWhile (· == 48)).reverse).dropWhile (· == 48)
theorem head_dropWhile (l : List UInt8) (h : l.dropWhile (· == 48) ≠ []) : (l.dropWhile (· == 48)).head h ≠ 48 := by
  have := List.head_dropWhile_not (· == (48 : UInt8)) (l := l) h
  simpa using this
theorem trm_of (l : List UInt8) : ∃ a b, l = List.replicate a 48 ++ trm l ++ List.replicate b 48 ∧ ∀ h : trm l ≠ [], (trm l).head h ≠ 48 ∧ (trm l).getLast h ≠ 48 := by
  obtain ⟨b, hb⟩ := dropWhile_rep 48 l.reverse
  obtain ⟨a, ha⟩ := dropWhile_rep 48 (l.reverse.dropWhile (· == 48)).reverse
  have e : l = (l.reverse.dropWhile (· == 48)).reverse ++ List.replicate b 48 := by
    have h := congrArg List.reverse hb
    rw [List.reverse_reverse, List.reverse_append, List.reverse_replicate] at h
    exact h
  refine ⟨a, b, ?_, fun h => ⟨head_dropWhile _ h, ?_⟩⟩
  · have : (l.reverse.dropWhile (· == 48)).reverse = List.replicate a 48 ++ trm l := ha
    rw [← this]; exact e
  · have hne : (l.reverse.dropWhile (· == 48)) ≠ [] := by
      intro hn; apply h; unfold trm; rw [hn]; rfl
    have hz := head_dropWhile _ hne
    have e2 : (l.reverse.dropWhile (· == 48)).reverse = List.replicate a 48 ++ trm l := ha
    have g : (l.reverse.dropWhile (· == 48)).reverse.getLast (by simpa using hne) = (trm l).getLast h := by
      have : (l.reverse.dropWhile (· == 48)).reverse.getLast? = (trm l).getLast? := by
        rw [e2, List.getLast?_append, List.getLast?_eq_some_getLast h]; rfl
      rw [List.getLast?_eq_some_getLast h, List.getLast?_eq_some_getLast (by simpa using hne)] at this
      exact Option.some.inj this
    rw [← g, List.getLast_reverse]
    exact hz
theorem inner_rns (l : List UInt8) : inner (rns l) = rns (trm l) := by
  obtain ⟨a, b, hl, hm⟩ := trm_of l
  obtain ⟨m, hmm⟩ : ∃ m, m = trm l := ⟨_, rfl⟩
  rw [← hmm] at hl hm ⊢
  clear hmm
  subst hl
  by_cases h : m = []
  · subst h
    rw [List.append_nil, List.replicate_append_replicate]
    exact inner_zero 48 rfl _
  · obtain ⟨h1, h2⟩ := hm h
    have z : (((48 : UInt8).toNat : Nat) : Int) - 48 = 0 := rfl
    have L : ∃ A, (A = [] ∨ ∃ n, A = [(⟨0, n⟩ : S36)]) ∧ rns (List.replicate a 48 ++ m) = A ++ rns m := by
      cases a with
      | zero => exact ⟨[], Or.inl rfl, rfl⟩
      | succ a =>
        refine ⟨[⟨0, (a : Int) + 1⟩], Or.inr ⟨_, rfl⟩, ?_⟩
        rw [rns_append _ (by simp) 48 (by simp) m h h1, rns_rep]; rfl
    have R : ∃ B, (B = [] ∨ ∃ n, B = [(⟨0, n⟩ : S36)]) ∧ rns (List.replicate a 48 ++ m ++ List.replicate b 48) = rns (List.replicate a 48 ++ m) ++ B := by
      cases b with
      | zero => exact ⟨[], Or.inl rfl, by simp⟩
      | succ b =>
        refine ⟨[⟨0, (b : Int) + 1⟩], Or.inr ⟨_, rfl⟩, ?_⟩
        have hne : List.replicate a 48 ++ m ≠ [] := by simp [h]
        rw [rns_append _ hne ((List.replicate a 48 ++ m).getLast hne) rfl _ (by simp) (by
          rw [List.getLast_append_of_ne_nil _ h]; simp; exact fun e => h2 e.symm), rns_rep]; rfl
    obtain ⟨A, hA, eA⟩ := L
    obtain ⟨B, hB, eB⟩ := R
    rw [eB, eA]
    obtain ⟨v, c, rfl⟩ := snoc_of m h
    have hc : c ≠ 48 := by simpa using h2
    obtain ⟨x, n, hx, _⟩ := rns_last _ v c rfl
    refine inner_of A _ B hA hB (rns_ne _ h) ?_ ?_
    · obtain ⟨d, w, hw⟩ : ∃ d w, v ++ [c] = d :: w := by
        cases hv : v ++ [c] with
        | nil => simp at hv
        | cons d w => exact ⟨d, w, rfl⟩
      have hd : d ≠ 48 := by
        have := h1; simp only [hw, List.head_cons] at this; exact this
      have := rns_head d w
      have e : ∃ n, (rns (v ++ [c])).head? = some ⟨(d.toNat : Int) - 48, n⟩ := by rw [hw]; exact this
      obtain ⟨n, e⟩ := e
      rw [List.head?_eq_some_head (rns_ne _ h)] at e
      rw [Option.some.inj e]
      show (d.toNat : Int) - 48 ≠ 0
      intro e0; apply hd; apply UInt8.toNat_inj.1; show d.toNat = 48; omega
    · have e : (rns (v ++ [c])).getLast? = some ⟨(c.toNat : Int) - 48, n⟩ := by rw [hx]; simp
      rw [List.getLast?_eq_some_getLast (rns_ne _ h)] at e
      rw [Option.some.inj e]
      show (c.toNat : Int) - 48 ≠ 0
      intro e0; apply hc; apply UInt8.toNat_inj.1; show c.toNat = 48; omega
/-! the unit of a line -/
theorem trimS_trm (L : List UInt8) : Lib.trimS L [48] = trm L := by
  have : (fun x => [(48 : UInt8)].contains x) = (fun x => x == 48) := by
    funext x
    simp [List.contains_eq_mem]
    rw [Bool.eq_iff_iff]; simp
  unfold Lib.trimS Lib.trimLeftS Lib.trimRightS trm
  rw [this]
theorem trm_mem (L : List UInt8) : ∀ c ∈ trm L, c ∈ L := by
  obtain ⟨a, b, hl, _⟩ := trm_of L
  intro c hc
  rw [hl]; simp [hc]
theorem trm_len (L : List UInt8) : (trm L).length ≤ L.length := by
  obtain ⟨a, b, hl, _⟩ := trm_of L
  have := congrArg List.length hl
  simp only [List.length_append, List.length_replicate] at this
  omega
theorem trm_all {L : List UInt8} (h : L.all onOff = true) : (trm L).all onOff = true := by
  rw [List.all_eq_true] at h ⊢
  exact fun c hc => h c (trm_mem L c hc)
theorem trim_eq (s : ByteArray) (hs : s.size ≤ 1048576) : strings_Trim.f s ⟨#[48]⟩ = some (txt (trm s.data.toList)) := by
  unfold strings_Trim.f
  rw [if_pos (by omega), if_pos (by decide), if_pos (by decide)]
  show some (txt (Lib.trimS s.data.toList [48])) = _
  rw [trimS_trm]
theorem inner_take (x : List S36) : inner x = (x.take (cutB x)).drop (cutA x) := by
  unfold inner
  rw [List.drop_take]
theorem rd_first (p : S36) (t : List S36) : rd_T36 (p :: t) 0 = p := rfl
theorem l4Inner_eq (s : ByteArray) (hs : s.size ≤ 1048576) (hb : s.data.toList.all onOff = true) (k : Nat) (hk : s.size < k) : spec_l4Inner.f k s = some (inner (rns s.data.toList)) := by
  have hsz := size_data s
  have hlen := rns_len s.data.toList
  unfold spec_l4Inner.f
  rw [sRuns_eq s hs hb k hk]
  obtain ⟨k, rfl⟩ := pred_of_lt hk
  simp only [Option.bind_some, inner_take]
  obtain ⟨x, hx⟩ : ∃ x, x = rns s.data.toList := ⟨_, rfl⟩
  rw [← hx] at hlen ⊢
  clear hx
  have hn : ([] : List S36).length = 0 := rfl
  by_cases h0 : x = []
  · subst h0
    rw [if_neg (by simp)]
    simp only [spec_l4Inner.j0, Bool.false_eq_true, if_false, Option.bind_some]
    rw [if_neg (by simp), if_pos (by omega), if_pos (by simp), if_pos (by simp), if_pos (by simp)]
    simp
  · obtain ⟨y, q, hq⟩ := snoc_of x h0
    obtain ⟨p, t, hp⟩ : ∃ p t, x = p :: t := by cases x with
      | nil => exact absurd rfl h0
      | cons p t => exact ⟨p, t, rfl⟩
    have hpos : 0 < x.length := List.length_pos_iff.2 h0
    have hr0 : rd_T36 x 0 = p := by rw [hp]; rfl
    have hyl : x.length = y.length + 1 := by rw [hq]; simp
    have hr1 : rd_T36 x (y.length : Int) = q := by rw [hq]; exact last_rd y q
    have ca : cutA x = if p.f0 = 0 then 1 else 0 := by rw [hp]; rfl
    have cb : cutB x = if q.f0 = 0 ∧ cutA x < x.length then x.length - 1 else x.length := by
      have : x.getLast? = some q := by rw [hq]; simp
      unfold cutB; rw [this]
    have e1 : wrap64 ((x.length : Int) - 1) = (y.length : Int) := by rw [wr (by omega) (by omega)]; omega
    rw [if_pos (by omega), if_pos (by omega), hr0]
    by_cases hp0 : p.f0 = 0
    · rw [if_pos hp0] at ca
      have hb : (p.f0 == 0) = true := by simpa using hp0
      simp only [spec_l4Inner.j0, hb, if_true, Option.bind_some, e1]
      by_cases hl1 : (x.length : Int) > 1
      · rw [if_pos hl1, if_pos (by omega), if_pos (by omega), hr1]
        by_cases hq0 : q.f0 = 0
        · rw [if_pos ⟨hq0, by omega⟩] at cb
          rw [if_pos hq0, if_pos (by omega), if_pos (by omega), ca, cb, Int.toNat_natCast, show x.length - 1 = y.length by omega, if_pos (by rw [hn, List.length_drop, List.length_take]; omega)]
          rfl
        · rw [if_neg (fun h => hq0 h.1)] at cb
          rw [if_neg hq0, if_pos (by omega), if_pos (by omega), ca, cb, Int.toNat_natCast, if_pos (by rw [hn, List.length_drop, List.length_take]; omega)]
          rfl
      · rw [if_neg (by omega)] at cb
        rw [if_neg hl1, if_pos (by omega), if_pos (by omega), ca, cb, Int.toNat_natCast, if_pos (by rw [hn, List.length_drop, List.length_take]; omega)]
        rfl
    · rw [if_neg hp0] at ca
      have hb : (p.f0 == 0) = false := by simpa using hp0
      have z0 : (0 : Int).toNat = 0 := rfl
      simp only [spec_l4Inner.j0, hb, Bool.false_eq_true, if_false, Option.bind_some, e1]
      rw [if_pos (by omega), if_pos (by omega), if_pos (by omega), hr1]
      by_cases hq0 : q.f0 = 0
      · rw [if_pos ⟨hq0, by omega⟩] at cb
        rw [if_pos hq0, if_pos (by omega), if_pos (by omega), if_pos (by omega), ca, cb, Int.toNat_natCast, z0, show x.length - 1 = y.length by omega, if_pos (by rw [hn, List.length_drop, List.length_take]; omega)]
        rfl
      · rw [if_neg (fun h => hq0 h.1)] at cb
        rw [if_neg hq0, if_pos (by omega), if_pos (by omega), if_pos (by omega), ca, cb, Int.toNat_natCast, z0, if_pos (by rw [hn, List.length_drop, List.length_take]; omega)]
        rfl
def gcds : List S36 → Nat → Nat
  | [], u => u
  | p :: t, u => gcds t (Nat.gcd u p.f1.toNat)
theorem gcd_turn (a b : Nat) : Nat.gcd a b = Nat.gcd b (a % b) := by
  rw [Nat.gcd_comm a b, Nat.gcd_rec b a, Nat.gcd_comm]
theorem tmod_nat (a b : Nat) : Int.tmod (a : Int) (b : Int) = ((a % b : Nat) : Int) := (Int.ofNat_tmod a b).symm
theorem divisor_eq (n : Nat) : ∀ (b : Nat), b ≤ n → ∀ (k a : Nat), b < k → impl_divisor.l0 k (a : Int) (b : Int) = some ((Nat.gcd a b : Nat) : Int) := by
  induction n with
  | zero =>
    intro b hb k a hk
    obtain ⟨k, rfl⟩ := pred_of_lt hk
    obtain rfl : b = 0 := by omega
    simp only [impl_divisor.l0]
    rw [if_pos (by omega), Nat.gcd_zero_right]
  | succ n ih =>
    intro b hb k a hk
    obtain ⟨k, rfl⟩ := pred_of_lt hk
    simp only [impl_divisor.l0]
    by_cases h0 : b = 0
    · subst h0; rw [if_pos (by omega), Nat.gcd_zero_right]
    · have hm := Nat.mod_lt a (Nat.pos_of_ne_zero h0)
      rw [if_neg (by omega), tmod_nat, ih (a % b) (by omega) k b (by omega), ← gcd_turn]
theorem sUnit_l1 (X : List S36) (i : Nat) (hi : i ≤ 1048576) (n : Nat) : ∀ (b : Nat), b ≤ n → ∀ (k a : Nat), b < k → ∃ k', k ≤ k' + b + 1 ∧ spec_l4Unit.l1 k X (i : Int) (a : Int) (b : Int) = spec_l4Unit.l0 k' ((Nat.gcd a b : Nat) : Int) X ((i + 1 : Nat) : Int) := by
  have e1 : wrap64 ((i : Int) + 1) = ((i + 1 : Nat) : Int) := by rw [wr (by omega) (by omega)]; omega
  induction n with
  | zero =>
    intro b hb k a hk
    obtain ⟨k, rfl⟩ := pred_of_lt hk
    obtain rfl : b = 0 := by omega
    refine ⟨k, by omega, ?_⟩
    simp only [spec_l4Unit.l1, e1]
    rw [if_neg (by omega), Nat.gcd_zero_right]
  | succ n ih =>
    intro b hb k a hk
    obtain ⟨k, rfl⟩ := pred_of_lt hk
    by_cases h0 : b = 0
    · subst h0
      refine ⟨k, by omega, ?_⟩
      simp only [spec_l4Unit.l1, e1]
      rw [if_neg (by omega), Nat.gcd_zero_right]
    · have hm := Nat.mod_lt a (Nat.pos_of_ne_zero h0)
      obtain ⟨k', h1, h2⟩ := ih (a % b) (by omega) k b (by omega)
      refine ⟨k', by omega, ?_⟩
      simp only [spec_l4Unit.l1]
      rw [if_pos (by omega), if_neg (by omega), tmod_nat, h2, ← gcd_turn]
theorem rdP_get (X : List S36) (i : Nat) (h : i < X.length) : rd_T36 X (i : Int) = X[i] := by simp [rd_T36, h]
theorem sUnit_l0 (X : List S36) (hX : X.length ≤ 1048576) (hf : ∀ p ∈ X, 0 ≤ p.f1 ∧ p.f1 ≤ 998) (d : Nat) : ∀ (k i u : Nat), i ≤ X.length → X.length - i = d → 1000 * d < k →
    spec_l4Unit.l0 k (u : Int) X (i : Int) = some ((gcds (X.drop i) u : Nat) : Int) := by
  induction d with
  | zero =>
    intro k i u hi hd hk
    obtain ⟨k, rfl⟩ := pred_of_lt hk
    simp only [spec_l4Unit.l0]
    rw [if_neg (by omega), List.drop_eq_nil_of_le (by omega)]; rfl
  | succ d ih =>
    intro k i u hi hd hk
    obtain ⟨k, rfl⟩ := pred_of_lt hk
    have hlt : i < X.length := by omega
    obtain ⟨h0, h1⟩ := hf _ (List.getElem_mem hlt)
    obtain ⟨b, hb⟩ : ∃ b : Nat, X[i].f1 = (b : Int) := ⟨X[i].f1.toNat, by omega⟩
    obtain ⟨k', hk', e⟩ := sUnit_l1 X i (by omega) b b (Nat.le_refl _) k u (by omega)
    simp only [spec_l4Unit.l0]
    rw [if_pos (by omega), if_pos (by omega), rdP_get X i hlt, hb, e, ih k' (i + 1) (Nat.gcd u b) (by omega) (by omega) (by omega), List.drop_eq_getElem_cons hlt]
    simp only [gcds, hb, Int.toNat_natCast]
theorem iUnit_l0 (X : List S36) (hX : X.length ≤ 1048576) (hf : ∀ p ∈ X, 0 ≤ p.f1 ∧ p.f1 ≤ 998) (d : Nat) : ∀ (k i u : Nat), i ≤ X.length → X.length - i = d → 1000 + d < k →
    impl_innerRuns.l0 k X (u : Int) X (X.length : Int) (i : Int) = some (X, ((gcds (X.drop i) u : Nat) : Int)) := by
  induction d with
  | zero =>
    intro k i u hi hd hk
    obtain ⟨k, rfl⟩ := pred_of_lt hk
    simp only [impl_innerRuns.l0]
    rw [if_neg (by omega), List.drop_eq_nil_of_le (by omega)]; rfl
  | succ d ih =>
    intro k i u hi hd hk
    obtain ⟨k, rfl⟩ := pred_of_lt hk
    have hlt : i < X.length := by omega
    have e1 : wrap64 ((i : Int) + 1) = ((i + 1 : Nat) : Int) := by rw [wr (by omega) (by omega)]; omega
    obtain ⟨h0, h1⟩ := hf _ (List.getElem_mem hlt)
    obtain ⟨b, hb⟩ : ∃ b : Nat, X[i].f1 = (b : Int) := ⟨X[i].f1.toNat, by omega⟩
    simp only [impl_innerRuns.l0, impl_divisor.f, e1]
    rw [if_pos (by omega), if_pos (by omega), if_pos (by omega), rdP_get X i hlt, hb, divisor_eq b b (Nat.le_refl _) k u (by omega)]
    simp only [Option.bind_some]
    rw [ih k (i + 1) (Nat.gcd u b) (by omega) (by omega) (by omega), List.drop_eq_getElem_cons hlt]
    simp only [gcds, hb, Int.toNat_natCast]
def unitL (L : List UInt8) : Nat := gcds (rns (trm L)) 0
theorem unit_both (s : ByteArray) (h : isLn s = true) (k : Nat) (hk : 1000000 ≤ k) : spec_l4Unit.f k s = some ((unitL s.data.toList : Nat) : Int) ∧ impl_innerRuns.f k s = some (rns (trm s.data.toList), ((unitL s.data.toList : Nat) : Int)) := by
  obtain ⟨hz, hb⟩ := isLn_all h
  have hsz := size_data s
  have ht := trm_len s.data.toList
  have hf : ∀ p ∈ rns (trm s.data.toList), 0 ≤ p.f1 ∧ p.f1 ≤ 998 := fun p hp => by
    have := rns_all _ p hp
    omega
  have hlen := rns_len (trm s.data.toList)
  have z : (txt (trm s.data.toList)).size = (trm s.data.toList).length := txt_size _
  constructor
  · unfold spec_l4Unit.f
    rw [l4Inner_eq s (by omega) hb k (by omega), inner_rns]
    exact sUnit_l0 _ (by omega) hf _ k 0 0 (by omega) rfl (by omega)
  · unfold impl_innerRuns.f
    rw [trim_eq s (by omega)]
    simp only [Option.bind_some]
    rw [iRuns_eq (txt (trm s.data.toList)) (by omega) (trm_all hb) k (by omega)]
    exact iUnit_l0 _ (by omega) hf _ k 0 0 (by omega) rfl (by omega)
/-! the line of runs, as both sides write it -/
theorem rbyte_num {f : Int} (h : f = 0 ∨ f = 1) : ((rbyte f).toNat : Int) = f + 48 := by
  rcases h with rfl | rfl <;> decide
theorem one_text (c : UInt8) : strOfNums [((c.toNat : Nat) : Int)] = (⟨#[c]⟩ : ByteArray) := strOf_nums [c]
def okRun (p : S36) : Prop := (p.f0 = 0 ∨ p.f0 = 1) ∧ 0 ≤ p.f1 ∧ p.f1 ≤ 1048576
theorem expd_app (x y : List S36) : expd (x ++ y) = expd x ++ expd y := by simp [expd]
theorem expd_take (X : List S36) (i : Nat) (h : i < X.length) : expd (X.take (i + 1)) = expd (X.take i) ++ List.replicate X[i].f1.toNat (rbyte X[i].f0) := by
  rw [List.take_succ_eq_append_getElem h, expd_snoc]
theorem expd_take_len (X : List S36) (i : Nat) : (expd (X.take i)).length ≤ (expd X).length := by
  have : expd X = expd (X.take i) ++ expd (X.drop i) := by rw [← expd_app, List.take_append_drop]
  rw [this, List.length_append]; omega
theorem ofRuns_l0 (X : List S36) (hX : X.length ≤ 1048576) (hok : ∀ p ∈ X, okRun p) (hz : (expd X).length ≤ 1048576) (d : Nat) : ∀ (k i : Nat), i ≤ X.length → X.length - i = d → d < k →
    impl_ofRuns.l0 k (txt (expd (X.take i))) X (X.length : Int) (i : Int) = some (txt (expd X)) := by
  induction d with
  | zero =>
    intro k i hi hd hk
    obtain ⟨k, rfl⟩ := pred_of_lt hk
    simp only [impl_ofRuns.l0]
    rw [if_neg (by omega), List.take_of_length_le (by omega)]
  | succ d ih =>
    intro k i hi hd hk
    obtain ⟨k, rfl⟩ := pred_of_lt hk
    have hlt : i < X.length := by omega
    obtain ⟨h1, h2, h3⟩ := hok _ (List.getElem_mem hlt)
    have n := ih k (i + 1) (by omega) (by omega) (by omega)
    have e1 : wrap64 ((i : Int) + 1) = ((i + 1 : Nat) : Int) := by rw [wr (by omega) (by omega)]; omega
    have hb := rbyte_num h1
    have e2 : (wrap64 (48 + X[i].f0)) % 256 = ((rbyte X[i].f0).toNat : Int) := by
      clear e1; rw [wr (by omega) (by omega)]; omega
    have l1 := expd_take_len X i
    have l2 := expd_take_len X (i + 1)
    rw [expd_take X i hlt] at n l2
    rw [← txt_app] at n
    rw [List.length_append] at l2
    simp only [impl_ofRuns.l0, rdP_get X i hlt, e1, e2, one_text]
    rw [if_pos (by omega), if_pos (by omega), if_pos (by omega), repeat_eq _ _ h2 h3]
    simp only [Option.bind_some]
    rw [if_pos (by rw [txt_size, txt_size]; omega)]
    exact n
theorem ofRuns_eq (X : List S36) (hX : X.length ≤ 1048576) (hok : ∀ p ∈ X, okRun p) (hz : (expd X).length ≤ 1048576) (k : Nat) (hk : X.length < k) : impl_ofRuns.f k X = some (txt (expd X)) :=
  ofRuns_l0 X hX hok hz X.length k 0 (by omega) (by omega) hk
theorem rns_ok {L : List UInt8} (h : L.all onOff = true) (hl : L.length ≤ 1048576) : ∀ p ∈ rns L, okRun p := by
  intro p hp
  obtain ⟨⟨c, hc, h0⟩, h1, h2⟩ := rns_all L p hp
  refine ⟨?_, by omega, by omega⟩
  rcases onOff_of h hc with rfl | rfl
  · left; rw [h0]; decide
  · right; rw [h0]; decide
/-! a list that is turned in place, element after element -/
def turnd (g : S36 → S36) (X : List S36) (i : Nat) : List S36 := (X.take i).map g ++ X.drop i
theorem turnd_len (g : S36 → S36) (X : List S36) (i : Nat) (h : i ≤ X.length) : (turnd g X i).length = X.length := by
  unfold turnd; rw [List.length_append, List.length_map, List.length_take, List.length_drop]; omega
theorem turnd_rd (g : S36 → S36) (X : List S36) (i : Nat) (h : i < X.length) : rd_T36 (turnd g X i) (i : Int) = X[i] := by
  have hl : ((X.take i).map g).length = i := by rw [List.length_map, List.length_take]; omega
  unfold turnd rd_T36
  rw [Int.toNat_natCast, List.getD_eq_getElem?_getD, List.getElem?_append_right (by omega), hl, Nat.sub_self, List.drop_eq_getElem_cons h]
  rfl
theorem turnd_set (g : S36 → S36) (X : List S36) (i : Nat) (h : i < X.length) : (turnd g X i).set i (g X[i]) = turnd g X (i + 1) := by
  have hl : ((X.take i).map g).length = i := by rw [List.length_map, List.length_take]; omega
  unfold turnd
  rw [List.set_append_right _ _ (by omega), hl, Nat.sub_self, List.drop_eq_getElem_cons h, List.set_cons_zero, List.take_succ_eq_append_getElem h, List.map_append, List.append_assoc]
  rfl
theorem turnd_zero (g : S36 → S36) (X : List S36) : turnd g X 0 = X := by simp [turnd]
theorem turnd_all (g : S36 → S36) (X : List S36) (i : Nat) (h : X.length ≤ i) : turnd g X i = X.map g := by
  unfold turnd; rw [List.take_of_length_le h, List.drop_eq_nil_of_le h, List.append_nil]
/-! the plain line, as both sides write it -/
def gu (u : Int) (p : S36) : S36 := ⟨p.f0, wrap64 (Int.tdiv p.f1 u)⟩
theorem gcds_pos : ∀ (X : List S36) (u : Nat), (0 < u ∨ X ≠ []) → (∀ p ∈ X, 1 ≤ p.f1) → 0 < gcds X u
  | [], u, h, _ => by
    rcases h with h | h
    · exact h
    · exact absurd rfl h
  | p :: X, u, _, h => by
    have hp := h p (by simp)
    exact gcds_pos X _ (Or.inl (Nat.gcd_pos_of_pos_right _ (by omega))) (fun p hp => h p (by simp [hp]))
theorem gu_ok (u : Nat) (p : S36) (h : okRun p) : okRun (gu u p) ∧ (gu u p).f1 ≤ p.f1 := by
  obtain ⟨h1, h2, h3⟩ := h
  obtain ⟨n, hn⟩ : ∃ n : Nat, p.f1 = (n : Int) := ⟨p.f1.toNat, by omega⟩
  have e : Int.tdiv (n : Int) (u : Int) = ((n / u : Nat) : Int) := (Int.ofNat_tdiv n u).symm
  have hle := Nat.div_le_self n u
  obtain ⟨q, hq⟩ : ∃ q : Nat, n / u = q := ⟨_, rfl⟩
  have e2 : (gu u p).f1 = ((n / u : Nat) : Int) := by
    show wrap64 (Int.tdiv p.f1 (u : Int)) = _
    rw [hn, e, hq, wr (by omega) (by omega)]
  rw [hq] at e2 hle
  exact ⟨⟨h1, by rw [e2]; omega, by rw [e2]; omega⟩, by rw [e2]; omega⟩
theorem expd_gu (u : Nat) : ∀ (X : List S36), (∀ p ∈ X, okRun p) → (expd (X.map (gu u))).length ≤ (expd X).length
  | [], _ => Nat.le_refl _
  | p :: X, h => by
    have ih := expd_gu u X (fun p hp => h p (by simp [hp]))
    have g := gu_ok u p (h p (by simp))
    have e1 : expd ((p :: X).map (gu u)) = List.replicate (gu u p).f1.toNat (rbyte (gu u p).f0) ++ expd (X.map (gu u)) := rfl
    have e2 : expd (p :: X) = List.replicate p.f1.toNat (rbyte p.f0) ++ expd X := rfl
    rw [e1, e2, List.length_append, List.length_append, List.length_replicate, List.length_replicate]
    have := g.2
    omega
theorem iPlain_l0 (X : List S36) (hX : X.length ≤ 1048576) (u : Int) (hu : X ≠ [] → u ≠ 0) (k' : Nat) (r : ByteArray) (hr : ∀ k, k' ≤ k → impl_ofRuns.f k (X.map (gu u)) = some r) (d : Nat) : ∀ (k i : Nat), i ≤ X.length → X.length - i = d → d + k' < k →
    impl_plainLine.l0 k (turnd (gu u) X i) u (X.length : Int) (i : Int) = some r := by
  induction d with
  | zero =>
    intro k i hi hd hk
    obtain ⟨k, rfl⟩ := pred_of_lt hk
    simp only [impl_plainLine.l0]
    rw [if_neg (by omega), turnd_all _ _ _ (by omega), hr k (by omega)]; rfl
  | succ d ih =>
    intro k i hi hd hk
    obtain ⟨k, rfl⟩ := pred_of_lt hk
    have hlt : i < X.length := by omega
    have hu0 := hu (by intro e; rw [e] at hlt; simp at hlt)
    have n := ih k (i + 1) (by omega) (by omega) (by omega)
    have e1 : wrap64 ((i : Int) + 1) = ((i + 1 : Nat) : Int) := by rw [wr (by omega) (by omega)]; omega
    simp only [impl_plainLine.l0, turnd_rd _ X i hlt, e1, Int.toNat_natCast, turnd_len _ X i hi]
    rw [if_pos (by omega), if_pos (by omega), if_pos (by omega), if_neg hu0]
    rw [← turnd_set _ X i hlt] at n
    exact n
theorem sign_text {f : Int} (h : f = 0 ∨ f = 1) : (⟨#[48, 49]⟩ : ByteArray).extract (f : Int).toNat ((wrap64 (f + 1)) : Int).toNat = (⟨#[rbyte f]⟩ : ByteArray) := by
  have e0 : wrap64 (0 + 1) = 1 := by rw [wr (by omega) (by omega)]; rfl
  have e1 : wrap64 (1 + 1) = 2 := by rw [wr (by omega) (by omega)]; rfl
  rcases h with rfl | rfl
  · rw [e0]; apply ByteArray.ext; apply Array.toList_inj.1; rw [ByteArray.data_extract, Array.toList_extract, List.extract_eq_take_drop]; rfl
  · rw [e1]; apply ByteArray.ext; apply Array.toList_inj.1; rw [ByteArray.data_extract, Array.toList_extract, List.extract_eq_take_drop]; rfl
theorem sPlain_l0 (X : List S36) (hX : X.length ≤ 1048576) (hok : ∀ p ∈ X, okRun p) (hz : (expd X).length ≤ 1048576) (u : Nat) (hu : X ≠ [] → u ≠ 0) (d : Nat) : ∀ (k i : Nat), i ≤ X.length → X.length - i = d → d + 1048600 < k →
    spec_l4Plain.l0 k (txt (expd ((X.map (gu u)).take i))) X (u : Int) (i : Int) = some (txt (expd (X.map (gu u)))) := by
  induction d with
  | zero =>
    intro k i hi hd hk
    obtain ⟨k, rfl⟩ := pred_of_lt hk
    simp only [spec_l4Plain.l0]
    rw [if_neg (by omega), List.take_of_length_le (by rw [List.length_map]; omega)]
  | succ d ih =>
    intro k i hi hd hk
    obtain ⟨k, rfl⟩ := pred_of_lt hk
    have hlt : i < X.length := by omega
    have hlt2 : i < (X.map (gu u)).length := by rw [List.length_map]; omega
    have hu0 := hu (by intro e; rw [e] at hlt; simp at hlt)
    have hok1 := hok _ (List.getElem_mem hlt)
    obtain ⟨⟨o1, o2, o3⟩, o4⟩ := gu_ok u _ hok1
    have n := ih k (i + 1) (by omega) (by omega) (by omega)
    have e1 : wrap64 ((i : Int) + 1) = ((i + 1 : Nat) : Int) := by rw [wr (by omega) (by omega)]; omega
    have l1 := expd_take_len (X.map (gu u)) i
    have l2 := expd_take_len (X.map (gu u)) (i + 1)
    have l3 := expd_gu u X hok
    rw [expd_take _ i hlt2] at n l2
    rw [← txt_app] at n
    rw [List.length_append] at l2
    have eg : (X.map (gu u))[i] = gu u X[i] := by simp
    rw [eg] at n l2
    have ef : (gu u X[i]).f0 = X[i].f0 := rfl
    have h01 := hok1.1
    simp only [spec_l4Plain.l0, rdP_get X i hlt, e1]
    have e3 : wrap64 (X[i].f0 + 1) = X[i].f0 + 1 := by clear e1; rw [wr (by omega) (by omega)]
    rw [sign_text h01, e3]
    have em := many_eq (rbyte X[i].f0) (gu u X[i]).f1 o2 o3 k (by omega)
    have em' : spec_l4Many.f k ⟨#[rbyte X[i].f0]⟩ (wrap64 (Int.tdiv X[i].f1 (u : Int))) = _ := em
    rw [if_pos (by omega), if_pos (by omega), if_pos (by omega), if_pos (by omega), if_pos (by omega), if_neg (by omega), em']
    simp only [Option.bind_some]
    rw [if_pos (by rw [txt_size, txt_size, List.length_replicate]; rw [List.length_replicate] at l2; omega)]
    exact n
theorem plain_both (s : ByteArray) (h : isLn s = true) (k : Nat) (hk : 2000000 ≤ k) : ∃ L : List UInt8, L.length ≤ 200 ∧ L.all onOff = true ∧ spec_l4Plain.f k s = some (txt L) ∧ impl_plainLine.f k s = some (txt L) := by
  obtain ⟨hz, hb⟩ := isLn_all h
  have hsz := size_data s
  have ht := trm_len s.data.toList
  have u := unit_both s h k (by omega)
  have hlen := rns_len (trm s.data.toList)
  have hok := rns_ok (trm_all hb) (by omega)
  have hu : rns (trm s.data.toList) ≠ [] → unitL s.data.toList ≠ 0 := fun hne => by
    have := gcds_pos (rns (trm s.data.toList)) 0 (Or.inr hne) (fun p hp => (rns_all _ p hp).2.1)
    unfold unitL; omega
  have hle := expd_gu (unitL s.data.toList) _ hok
  have hex : (expd (rns (trm s.data.toList))).length ≤ 200 := by rw [expd_rns]; omega
  refine ⟨expd ((rns (trm s.data.toList)).map (gu (unitL s.data.toList))), by omega, ?_, ?_, ?_⟩
  · rw [List.all_eq_true]
    intro c hc
    obtain ⟨p, hp, hcp⟩ := List.mem_flatMap.1 hc
    obtain ⟨q, hq, rfl⟩ := List.mem_map.1 hp
    obtain ⟨⟨o1, _, _⟩, _⟩ := gu_ok (unitL s.data.toList) q (hok q hq)
    rw [List.mem_replicate] at hcp
    rw [hcp.2]
    rcases o1 with e | e <;> rw [e] <;> decide
  · unfold spec_l4Plain.f
    rw [l4Inner_eq s (by omega) hb k (by omega), inner_rns, u.1]
    simp only [Option.bind_some]
    exact sPlain_l0 _ (by omega) hok (by omega) (unitL s.data.toList) hu _ k 0 (by omega) rfl (by omega)
  · unfold impl_plainLine.f
    rw [u.2]
    simp only [Option.bind_some]
    have I := iPlain_l0 (rns (trm s.data.toList)) (by omega) (unitL s.data.toList : Int) (fun hne => by have := hu hne; omega) 300 (txt (expd ((rns (trm s.data.toList)).map (gu (unitL s.data.toList))))) (fun k hk => by
      refine ofRuns_eq _ (by rw [List.length_map]; omega) ?_ (by omega) k (by rw [List.length_map]; omega)
      intro p hp
      obtain ⟨q, hq, rfl⟩ := List.mem_map.1 hp
      exact (gu_ok _ q (hok q hq)).1) (rns (trm s.data.toList)).length k 0 (by omega) (by omega) (by omega)
    rw [turnd_zero] at I
    exact I
/-! the signal of a line, as both sides read it off its runs -/
def ansOf (s x : ByteArray) : ByteArray × Bool := if isSig x = true then (if (txt (gp true x.data.toList)).toList = s.toList then (x, true) else (⟨#[]⟩, false)) else (⟨#[]⟩, false)
def stepR (p : S36) : Option (List UInt8) := if p.f0 = 1 then (if p.f1 = 1 then some [46] else if p.f1 = 3 then some [45] else none) else (if p.f1 = 1 then some [] else if p.f1 = 3 then some [32] else if p.f1 = 7 then some [47] else none)
def trR : List S36 → List UInt8 → Option (List UInt8)
  | [], acc => some acc
  | p :: r, acc => match stepR p with
    | some x => trR r (acc ++ x)
    | none => none
def outR (s : ByteArray) (r : Option (List UInt8)) : ByteArray × Bool := match r with
  | some x => ansOf s (txt x)
  | none => (⟨#[]⟩, false)
theorem stepR_len (p : S36) (x : List UInt8) (h : stepR p = some x) : x.length ≤ 1 := by
  unfold stepR at h
  split at h
  · split at h
    · cases h; simp
    · split at h
      · cases h; simp
      · cases h
  · split at h
    · cases h; simp
    · split at h
      · cases h; simp
      · split at h
        · cases h; simp
        · cases h
theorem finS (s x : ByteArray) (hx : x.size ≤ 1048576) (k : Nat) (hk : 8388640 ≤ k) :
    ((spec_l2Signal.f k x).bind fun t => (if t = true then ((spec_l4Of.f k x).bind fun u => (if u.toList = s.toList then (some (x, true)) else (some ((⟨#[]⟩ : ByteArray), false)))) else (some ((⟨#[]⟩ : ByteArray), false)))) = some (ansOf s x) := by
  rw [(isSig_both x hx k hk).1, Option.bind_some]
  unfold ansOf
  by_cases h : isSig x = true
  · rw [if_pos h, if_pos h, l4Of_eq x hx k (by omega), Option.bind_some]
    split <;> rfl
  · rw [if_neg h, if_neg h]
theorem finI (s x : ByteArray) (hx : x.size ≤ 1048576) (k : Nat) (hk : 8388640 ≤ k) :
    ((impl_isSignal.f k x).bind fun t => (if t = true then ((impl_lineOf.f k x).bind fun u => (if u.toList = s.toList then (some (x, true)) else (some ((⟨#[]⟩ : ByteArray), false)))) else (some ((⟨#[]⟩ : ByteArray), false)))) = some (ansOf s x) := by
  rw [(isSig_both x hx k hk).2, Option.bind_some]
  unfold ansOf
  by_cases h : isSig x = true
  · rw [if_pos h, if_pos h, lineOf_eq x hx h k (by omega), Option.bind_some]
    split <;> rfl
  · rw [if_neg h, if_neg h]
theorem sSig_l0 (s : ByteArray) (R : List S36) (hR : R.length ≤ 1000) (hf : ∀ p ∈ R, p.f0 = 1 ∨ p.f0 = 0) (d : Nat) : ∀ (k i : Nat) (acc : List UInt8), i ≤ R.length → R.length - i = d → 8388640 + 5 * d < k → acc.length ≤ i →
    spec_l4Signal.l0 k s (txt acc) R (i : Int) = some (outR s (trR (R.drop i) acc)) := by
  induction d with
  | zero =>
    intro k i acc hi hd hk ha
    obtain ⟨k, rfl⟩ := pred_of_lt hk
    have hz := txt_size acc
    rw [spec_l4Signal.l0, if_neg (by omega), List.drop_eq_nil_of_le (by omega)]
    exact finS s (txt acc) (by omega) k (by omega)
  | succ d ih =>
    intro k i acc hi hd hk ha
    obtain ⟨k, rfl⟩ : ∃ m, k = m + 5 := ⟨k - 5, by omega⟩
    have hz := txt_size acc
    have hlt : i < R.length := by omega
    obtain ⟨p, hp⟩ : ∃ p, R[i] = p := ⟨_, rfl⟩
    have hdr : R.drop i = p :: R.drop (i + 1) := by rw [List.drop_eq_getElem_cons hlt, hp]
    have hp01 := hf p (by rw [← hp]; exact List.getElem_mem hlt)
    have e : wrap64 ((i : Int) + 1) = ((i + 1 : Nat) : Int) := by rw [wr (by omega) (by omega)]; rfl
    have nx : ∀ (m : Nat) (x : List UInt8), 8388640 + 5 * d < m → stepR p = some x → spec_l4Signal.l0 m s (txt (acc ++ x)) R ((i + 1 : Nat) : Int) = some (outR s (trR (p :: R.drop (i + 1)) acc)) := by
      intro m x hm hx
      have hl := stepR_len p x hx
      have n := ih m (i + 1) (acc ++ x) (by omega) (by omega) hm (by rw [List.length_append]; omega)
      rw [n]
      simp only [trR, hx]
    rw [spec_l4Signal.l0, if_pos (by omega), if_pos (by omega), rdP_get R i hlt, hp, hdr]
    rcases hp01 with h1 | h0
    · have n0 : ¬ p.f0 = 0 := by omega
      rw [if_pos h1, spec_l4Signal.j1]
      by_cases a1 : p.f1 = 1
      · rw [show (p.f1 == 1) = true by simp [a1], if_pos rfl, if_pos (by omega), e, show (⟨#[46]⟩ : ByteArray) = txt [46] from rfl, txt_app]
        exact nx _ [46] (by omega) (by unfold stepR; rw [if_pos h1, if_pos a1])
      · rw [show (p.f1 == 1) = false by simp [a1], if_neg (by decide), if_pos h1, spec_l4Signal.j2]
        by_cases a3 : p.f1 = 3
        · rw [show (p.f1 == 3) = true by simp [a3], if_pos rfl, if_pos (by omega), e, show (⟨#[45]⟩ : ByteArray) = txt [45] from rfl, txt_app]
          exact nx _ [45] (by omega) (by unfold stepR; rw [if_pos h1, if_neg a1, if_pos a3])
        · rw [show (p.f1 == 3) = false by simp [a3], if_neg (by decide), if_neg n0, spec_l4Signal.j3, if_neg (by decide), if_neg n0, spec_l4Signal.j4, if_neg (by decide), if_neg n0]
          have hx : stepR p = none := by unfold stepR; rw [if_pos h1, if_neg a1, if_neg a3]
          simp only [trR, hx, outR]
    · have n1 : ¬ p.f0 = 1 := by omega
      rw [if_neg n1, spec_l4Signal.j1, if_neg (by decide), if_neg n1, spec_l4Signal.j2, if_neg (by decide), if_pos h0, spec_l4Signal.j3]
      by_cases a1 : p.f1 = 1
      · rw [show (p.f1 == 1) = true by simp [a1], if_pos rfl, e]
        have n := nx (k + 1) [] (by omega) (by unfold stepR; rw [if_neg n1, if_pos a1])
        rw [List.append_nil] at n
        exact n
      · rw [show (p.f1 == 1) = false by simp [a1], if_neg (by decide), if_pos h0, spec_l4Signal.j4]
        by_cases a3 : p.f1 = 3
        · rw [show (p.f1 == 3) = true by simp [a3], if_pos rfl, if_pos (by omega), e, show (⟨#[32]⟩ : ByteArray) = txt [32] from rfl, txt_app]
          exact nx _ [32] (by omega) (by unfold stepR; rw [if_neg n1, if_neg a1, if_pos a3])
        · rw [show (p.f1 == 3) = false by simp [a3], if_neg (by decide), if_pos h0]
          by_cases a7 : p.f1 = 7
          · rw [if_pos a7, if_pos (by omega), e, show (⟨#[47]⟩ : ByteArray) = txt [47] from rfl, txt_app]
            exact nx _ [47] (by omega) (by unfold stepR; rw [if_neg n1, if_neg a1, if_neg a3, if_pos a7])
          · rw [if_neg a7]
            have hx : stepR p = none := by unfold stepR; rw [if_neg n1, if_neg a1, if_neg a3, if_neg a7]
            simp only [trR, hx, outR]
open Classical in
theorem iSig_l0 (s : ByteArray) (R : List S36) (hR : R.length ≤ 1000) (hf : ∀ p ∈ R, p.f0 = 1 ∨ p.f0 = 0) (d : Nat) : ∀ (k i : Nat) (acc : List UInt8), i ≤ R.length → R.length - i = d → 8388640 + 5 * d < k → acc.length ≤ i →
    impl_signalOf.l0 k s (txt acc) R (R.length : Int) (i : Int) = some (outR s (if i = 0 ∧ (∃ r, R = ⟨0, 1⟩ :: r) then none else trR (R.drop i) acc)) := by
  induction d with
  | zero =>
    intro k i acc hi hd hk ha
    obtain ⟨k, rfl⟩ := pred_of_lt hk
    have hz := txt_size acc
    have hno : ¬ (i = 0 ∧ (∃ r, R = ⟨0, 1⟩ :: r)) := by
      rintro ⟨h1, r, h2⟩
      rw [h2, List.length_cons] at hd
      omega
    rw [if_neg hno, impl_signalOf.l0, if_neg (by omega), List.drop_eq_nil_of_le (by omega)]
    exact finI s (txt acc) (by omega) k (by omega)
  | succ d ih =>
    intro k i acc hi hd hk ha
    obtain ⟨k, rfl⟩ : ∃ m, k = m + 5 := ⟨k - 5, by omega⟩
    have hz := txt_size acc
    have hlt : i < R.length := by omega
    obtain ⟨p, hp⟩ : ∃ p, R[i] = p := ⟨_, rfl⟩
    have hdr : R.drop i = p :: R.drop (i + 1) := by rw [List.drop_eq_getElem_cons hlt, hp]
    have hp01 := hf p (by rw [← hp]; exact List.getElem_mem hlt)
    have e : wrap64 ((i : Int) + 1) = ((i + 1 : Nat) : Int) := by rw [wr (by omega) (by omega)]; rfl
    have hfirst : (∃ r, R = ⟨0, 1⟩ :: r) → i = 0 → p.f0 = 0 ∧ p.f1 = 1 := by
      rintro ⟨r, hr⟩ h0
      subst h0
      rw [List.drop_zero, hr] at hdr
      have := (List.cons.inj hdr).1
      rw [← this]
      exact ⟨rfl, rfl⟩
    have nx : ∀ (m : Nat) (x : List UInt8), 8388640 + 5 * d < m → stepR p = some x → ¬ (i = 0 ∧ (∃ r, R = ⟨0, 1⟩ :: r)) → impl_signalOf.l0 m s (txt (acc ++ x)) R (R.length : Int) ((i + 1 : Nat) : Int) = some (outR s (if i = 0 ∧ (∃ r, R = ⟨0, 1⟩ :: r) then none else trR (p :: R.drop (i + 1)) acc)) := by
      intro m x hm hx hno
      have hl := stepR_len p x hx
      have n := ih m (i + 1) (acc ++ x) (by omega) (by omega) hm (by rw [List.length_append]; omega)
      rw [n, if_neg hno, if_neg (fun h => by have := h.1; omega)]
      simp only [trR, hx]
    have out : ∀ (hno : ¬ (i = 0 ∧ (∃ r, R = ⟨0, 1⟩ :: r))), stepR p = none → some ((⟨#[]⟩ : ByteArray), false) = some (outR s (if i = 0 ∧ (∃ r, R = ⟨0, 1⟩ :: r) then none else trR (p :: R.drop (i + 1)) acc)) := by
      intro hno hx
      rw [if_neg hno]
      simp only [trR, hx, outR]
    rw [impl_signalOf.l0, if_pos (by omega), if_pos (by omega), if_pos (by omega), rdP_get R i hlt, hp, hdr]
    rcases hp01 with h1 | h0
    · have n0 : ¬ p.f0 = 0 := by omega
      have hno : ¬ (i = 0 ∧ (∃ r, R = ⟨0, 1⟩ :: r)) := fun h => n0 (hfirst h.2 h.1).1
      rw [if_pos h1, impl_signalOf.j1]
      by_cases a1 : p.f1 = 1
      · rw [show (p.f1 == 1) = true by simp [a1], if_pos rfl, if_pos (by omega), e, show (⟨#[46]⟩ : ByteArray) = txt [46] from rfl, txt_app]
        exact nx _ [46] (by omega) (by unfold stepR; rw [if_pos h1, if_pos a1]) hno
      · rw [show (p.f1 == 1) = false by simp [a1], if_neg (by decide), if_pos h1, impl_signalOf.j2]
        by_cases a3 : p.f1 = 3
        · rw [show (p.f1 == 3) = true by simp [a3], if_pos rfl, if_pos (by omega), e, show (⟨#[45]⟩ : ByteArray) = txt [45] from rfl, txt_app]
          exact nx _ [45] (by omega) (by unfold stepR; rw [if_pos h1, if_neg a1, if_pos a3]) hno
        · rw [show (p.f1 == 3) = false by simp [a3], if_neg (by decide), if_neg n0, impl_signalOf.j3, if_neg (by decide), if_neg n0, impl_signalOf.j4, if_neg (by decide), if_neg n0]
          exact out hno (by unfold stepR; rw [if_pos h1, if_neg a1, if_neg a3])
    · have n1 : ¬ p.f0 = 1 := by omega
      rw [if_neg n1, impl_signalOf.j1, if_neg (by decide), if_neg n1, impl_signalOf.j2, if_neg (by decide), if_pos h0]
      by_cases a1 : p.f1 = 1
      · rw [if_pos a1, impl_signalOf.j3]
        by_cases i0 : i = 0
        · have hr : i = 0 ∧ (∃ r, R = ⟨0, 1⟩ :: r) := ⟨i0, R.drop (i + 1), by
            rw [i0, List.drop_zero] at hdr
            rw [i0, hdr]
            congr 1
            cases p with
            | mk f0 f1 =>
              simp only at h0 a1
              rw [h0, a1]⟩
          rw [show decide ((i : Int) > 0) = false from decide_eq_false (by omega), if_neg (by decide), if_pos h0, impl_signalOf.j4, show (p.f1 == 3) = false by simp [a1], if_neg (by decide), if_pos h0, if_neg (by omega), if_pos hr]
          rfl
        · rw [show decide ((i : Int) > 0) = true from decide_eq_true (by omega), if_pos rfl, e]
          have n := nx (k + 1) [] (by omega) (by unfold stepR; rw [if_neg n1, if_pos a1]) (fun h => i0 h.1)
          rw [List.append_nil] at n
          exact n
      · have hno : ¬ (i = 0 ∧ (∃ r, R = ⟨0, 1⟩ :: r)) := fun h => a1 (hfirst h.2 h.1).2
        rw [if_neg a1, impl_signalOf.j3, if_neg (by decide), if_pos h0, impl_signalOf.j4]
        by_cases a3 : p.f1 = 3
        · rw [show (p.f1 == 3) = true by simp [a3], if_pos rfl, if_pos (by omega), e, show (⟨#[32]⟩ : ByteArray) = txt [32] from rfl, txt_app]
          exact nx _ [32] (by omega) (by unfold stepR; rw [if_neg n1, if_neg a1, if_pos a3]) hno
        · rw [show (p.f1 == 3) = false by simp [a3], if_neg (by decide), if_pos h0]
          by_cases a7 : p.f1 = 7
          · rw [if_pos a7, if_pos (by omega), e, show (⟨#[47]⟩ : ByteArray) = txt [47] from rfl, txt_app]
            exact nx _ [47] (by omega) (by unfold stepR; rw [if_neg n1, if_neg a1, if_neg a3, if_pos a7]) hno
          · rw [if_neg a7]
            exact out hno (by unfold stepR; rw [if_neg n1, if_neg a1, if_neg a3, if_neg a7])
/-- the line of a signal begins with a mark -/
theorem pieces_head (s : ByteArray) (c : UInt8) : ∃ (p : ByteArray) (P : List ByteArray) (o : Nat), pieces s c = p :: P ∧ p.data.toList = s.data.toList.take o := by
  rcases pieces_step2 s c with h | ⟨o, ho, _, h⟩
  · exact ⟨s, [], s.size, h, by rw [List.take_of_length_le (by rw [size_data]; omega)]⟩
  · refine ⟨_, _, o, h, ?_⟩
    rw [ByteArray.data_extract, Array.toList_extract, List.extract_eq_take_drop, List.drop_zero, Nat.sub_zero]
theorem sig_head (x : ByteArray) (h : isSig x = true) (r : List UInt8) : gp true x.data.toList ≠ 48 :: r := by
  have hz := size_data x
  by_cases h0 : x.size = 0
  · have hl : x.data.toList = [] := List.eq_nil_of_length_eq_zero (by omega)
    rw [hl]
    intro e
    cases e
  · obtain ⟨ok, _⟩ := sig_small x h0 h
    obtain ⟨w, Ws, o1, hw, hw2⟩ := pieces_head x 47
    obtain ⟨m, ms, o2, hm, hm2⟩ := pieces_head w 32
    have hok : isMk m 1 5 = true := by
      unfold wordsL at ok
      rw [hw, List.map_cons, hm] at ok
      simp only [okW, okL, List.all_cons, Bool.and_eq_true] at ok
      exact ok.1.1
    simp only [isMk, Bool.and_eq_true, decide_eq_true_eq] at hok
    have hmz := size_data m
    rw [hw2] at hm2
    cases hx : x.data.toList with
    | nil => rw [hx] at hz; simp at hz; omega
    | cons c cs =>
      rw [hx] at hm2
      have hne : m.data.toList ≠ [] := by
        intro e
        rw [e] at hmz
        simp at hmz
        omega
      have hc : ∃ t, m.data.toList = c :: t := by
        cases o1 with
        | zero => rw [List.take_zero, List.take_nil] at hm2; exact absurd hm2 hne
        | succ o1 =>
          rw [List.take_succ_cons] at hm2
          cases o2 with
          | zero => rw [List.take_zero] at hm2; exact absurd hm2 hne
          | succ o2 => rw [List.take_succ_cons] at hm2; exact ⟨_, hm2⟩
      obtain ⟨t, ht⟩ := hc
      have hd := hok.2
      rw [ht, List.all_cons, Bool.and_eq_true] at hd
      have hs := dd_not hd.1
      simp only [gp, hs.1, hs.2, if_false, if_true, List.nil_append]
      unfold mkc
      split
      · intro e; cases e
      · intro e; cases e
theorem sigOf_both (s : ByteArray) (hs : s.size ≤ 200) (hb : s.data.toList.all onOff = true) (k : Nat) (hk : 8400000 ≤ k) : ∃ A : ByteArray × Bool, spec_l4Signal.f k s = some A ∧ impl_signalOf.f k s = some A := by
  have hz := size_data s
  have hlen := rns_len s.data.toList
  have hf : ∀ p ∈ rns s.data.toList, p.f0 = 1 ∨ p.f0 = 0 := by
    intro p hp
    obtain ⟨⟨c, hc, hc2⟩, _⟩ := rns_all s.data.toList p hp
    rcases onOff_of hb hc with h | h
    · subst h; right; rw [hc2]; rfl
    · subst h; left; rw [hc2]; rfl
  refine ⟨outR s (trR (rns s.data.toList) []), ?_, ?_⟩
  · unfold spec_l4Signal.f
    rw [sRuns_eq s (by omega) hb k (by omega), Option.bind_some]
    exact sSig_l0 s (rns s.data.toList) (by omega) hf _ k 0 [] (by omega) rfl (by omega) (by simp)
  · unfold impl_signalOf.f
    rw [iRuns_eq s (by omega) hb k (by omega), Option.bind_some]
    have h := iSig_l0 s (rns s.data.toList) (by omega) hf _ k 0 [] (by omega) rfl (by omega) (by simp)
    have hz0 : ((0 : Nat) : Int) = 0 := rfl
    rw [hz0, List.drop_zero] at h
    refine h.trans ?_
    by_cases hc : ∃ r, rns s.data.toList = ⟨0, 1⟩ :: r
    · rw [if_pos ⟨rfl, hc⟩]
      obtain ⟨r, hr⟩ := hc
      cases hx : s.data.toList with
      | nil => rw [hx] at hr; cases hr
      | cons d w =>
        obtain ⟨n, hn⟩ := rns_head d w
        rw [hx] at hr
        rw [hr] at hn
        have hd : (d.toNat : Int) - 48 = 0 := by
          have := Option.some.inj hn
          have := congrArg (fun q : S36 => q.f0) this
          exact this.symm
        have hd48 : d = 48 := UInt8.toNat_inj.1 (show d.toNat = 48 by omega)
        congr 1
        cases ht : trR (rns (d :: w)) [] with
        | none => rfl
        | some x =>
          show (⟨#[]⟩, false) = ansOf s (txt x)
          unfold ansOf
          by_cases hsg : isSig (txt x) = true
          · rw [if_pos hsg, if_neg]
            intro e
            rw [ByteArray.toList_eq, ByteArray.toList_eq, txt_data, hx, hd48] at e
            exact sig_head (txt x) hsg w e
          · rw [if_neg hsg]
    · rw [if_neg (fun h => hc h.2)]
theorem FnExactReadLine : laws_FnExactReadLine.Pure := by
  intro s hs
  by_cases h : (s.size : Int) > 1048576
  · refine ⟨0, ?_⟩
    unfold laws_FnExactReadLine.f
    rw [if_pos h]
  · obtain ⟨M, hM⟩ : ∃ M : Nat, 8400000 ≤ M := ⟨8400000, Nat.le_refl _⟩
    refine ⟨M, ?_⟩
    unfold laws_FnExactReadLine.f spec_ReadLine.f impl_ReadLine.f
    rw [if_neg h, l4Line_eq s (by omega) _ (by omega), implLine_eq]
    simp only [Option.bind_some]
    by_cases hl : isLn s = true
    · obtain ⟨L, l1, l2, p1, p2⟩ := plain_both s hl M (by omega)
      obtain ⟨A, u1, u2⟩ := sigOf_both (txt L) (by rw [txt_size]; exact l1) l2 M hM
      rw [if_pos hl, if_pos hl, p1, p2]
      simp only [Option.bind_some, u1, u2]
      simp
    · rw [if_neg hl, if_neg hl]
      simp

end Go.Proofs.YtbdagfdhkobbcaaDoor.Pure
