/- SplitString of the program and of the reference answer alike at every pair of texts. -/
import Derived.Test.YtppnajkkhemopaaDoorHFnExactSplitStringx2
namespace Go.Proofs.YtppnajkkhemopaaDoor.Pure
open Go.RowKit Go.Proofs.YtppnajkkhemopaaDoor.HFnExactSplitString Go.Proofs.YtppnajkkhemopaaDoorW.PrintWords Go.Proofs.YtppnajkkhemopaaDoorW.PrintLast
set_option linter.unusedVariables false
set_option linter.unusedSimpArgs false
set_option linter.unnecessarySimpa false

theorem wr {i : Int} (h0 : -9223372036854775808 ≤ i) (h1 : i ≤ 9223372036854775807) : wrap64 i = i := by unfold wrap64; omega
theorem rd_nat (xs : List Int) (i : Nat) : rd xs (i : Int) = xs.getD i 0 := by simp [rd]
theorem rd_get (xs : List Int) (i : Nat) (h : i < xs.length) : rd xs (i : Int) = xs[i] := by simp [rd, h]
theorem pred_of_lt {d k : Nat} (h : d < k) : ∃ m, k = m + 1 := ⟨k - 1, by omega⟩
/-! bytes of a text -/
theorem size_data (s : ByteArray) : s.data.toList.length = s.size := Array.length_toList
theorem bt_nat (s : ByteArray) (i : Nat) (h : i < s.size) : bt s (i : Int) = ((s.data.toList[i]'(by rw [size_data]; exact h)).toNat : Int) := by
  have := bt_at s (i : Int) (by simpa using h)
  rw [← this]
  rfl
theorem byte_num (b c : UInt8) (n : Nat) (hc : c.toNat = n) : ((b.toNat : Int) = (n : Int)) ↔ b = c := by
  constructor
  · intro h
    exact UInt8.toNat_inj.1 (by omega)
  · rintro rfl; omega
/-! what is left when bytes of a set are taken off both ends -/
theorem dropWhile_nil {p : UInt8 → Bool} (l : List UInt8) : l.dropWhile p = [] ↔ l.all p = true := by
  induction l with
  | nil => simp
  | cons a l ih =>
    rw [List.dropWhile_cons]
    by_cases h : p a = true
    · rw [if_pos h, ih]; simp [h]
    · rw [if_neg h]; simp [h]
theorem trimS_nil (l cs : List UInt8) : Lib.trimS l cs = [] ↔ l.all (cs.contains ·) = true := by
  unfold Lib.trimS Lib.trimLeftS Lib.trimRightS
  rw [dropWhile_nil]
  constructor
  · intro h
    by_cases hr : (l.reverse.dropWhile (cs.contains ·)) = []
    · rw [dropWhile_nil, List.all_reverse] at hr; exact hr
    · exfalso
      rw [List.all_reverse] at h
      cases hd : l.reverse.dropWhile (cs.contains ·) with
      | nil => exact hr hd
      | cons a t =>
        have ha : cs.contains a = false := by
          have := List.head?_dropWhile_not (cs.contains ·) l.reverse
          rw [hd] at this
          simpa using this
        rw [hd] at h
        simp at h
        rw [List.contains_eq_mem] at ha
        simp [h.1] at ha
  · intro h
    have : (l.reverse.dropWhile (cs.contains ·)) = [] := by
      rw [dropWhile_nil, List.all_reverse]; exact h
    rw [this]; rfl
theorem toList_nil (l : List UInt8) : ((⟨l.toArray⟩ : ByteArray).toList == ([] : List UInt8)) = l.isEmpty := by
  have : (⟨l.toArray⟩ : ByteArray).toList = l := by
    rw [ByteArray.toList_eq]
  rw [this]
  cases l <;> rfl
theorem bt_is (s : ByteArray) (i : Nat) (h : i < s.size) (c : UInt8) (n : Int) (hc : (c.toNat : Int) = n) : (bt s (i : Int) = n) ↔ (s.data.toList[i]'(by rw [size_data]; exact h)) = c := by
  rw [bt_nat s i h, ← hc]
  constructor
  · intro e; exact UInt8.toNat_inj.1 (by omega)
  · intro e; rw [e]
/-! lists of texts: their sizes, copies, comparisons -/
theorem rdS_get (xs : List ByteArray) (i : Nat) (h : i < xs.length) : rdOf ByteArray.empty xs (i : Int) = xs[i] := by simp [rdOf, h]
theorem toList_inj (a b : ByteArray) : a.toList = b.toList ↔ a = b := by
  rw [ByteArray.toList_eq, ByteArray.toList_eq]
  constructor
  · intro h; exact ByteArray.ext (Array.toList_inj.1 h)
  · rintro rfl; rfl
theorem eqStringS_l0 (a : List ByteArray) (ha : a.length ≤ 1048576) (d : Nat) : ∀ (k i : Nat), i ≤ a.length → a.length - i = d → d < k → laws_eqStringS.l0 k a a (i : Int) = some true := by
  induction d with
  | zero =>
    intro k i hi hd hk
    obtain ⟨k, rfl⟩ := pred_of_lt hk
    simp only [laws_eqStringS.l0]; rw [if_neg (by omega)]
  | succ d ih =>
    intro k i hi hd hk
    obtain ⟨k, rfl⟩ := pred_of_lt hk
    simp only [laws_eqStringS.l0, if_true]; rw [if_pos (by omega), if_pos (by omega), if_pos (by omega), wr (by omega) (by omega)]
    have e : ((i : Int) + 1) = ((i + 1 : Nat) : Int) := by omega
    rw [e]
    exact ih k (i + 1) (by omega) (by omega) (by omega)
theorem eqStringS_self (a : List ByteArray) (ha : a.length ≤ 1048576) (k : Nat) (hk : a.length < k) : laws_eqStringS.f k a a = some true := by
  unfold laws_eqStringS.f
  rw [if_pos rfl]
  exact eqStringS_l0 a ha a.length k 0 (by omega) (by omega) hk
/-! marks that are laid into a list of texts and found again -/
theorem strNum_size (n : Int) : (strOfNums [n]).size = 1 := rfl
theorem markText_l0 (f : Nat) : ∀ (a : Int) (x : ByteArray), 0 ≤ a → a < 10 ^ f → a ≤ 1000000000 → x.size + f ≤ 1000 → ∃ r, ∀ k, f < k → laws_markText.l0 k a x = some r := by
  induction f with
  | zero =>
    intro a x h0 h1 h2 hx
    refine ⟨(⟨#[109]⟩ : ByteArray) ++ x, fun k hk => ?_⟩
    obtain ⟨k, rfl⟩ := pred_of_lt hk
    simp only [laws_markText.l0]
    rw [if_neg (by simp at h1; omega), if_pos (by omega)]
  | succ f ih =>
    intro a x h0 h1 h2 hx
    by_cases hp : a > 0
    · have hq : Int.tdiv a 10 = a / 10 := Int.tdiv_eq_ediv_of_nonneg h0
      have hlt : a / 10 < 10 ^ f := by
        rw [Int.pow_succ] at h1
        exact Int.ediv_lt_of_lt_mul (by decide) h1
      obtain ⟨r, hr⟩ := ih (a / 10) (strOfNums [(wrap64 (48 + (Int.tmod a 10))) % 256] ++ x) (by omega) hlt (by omega) (by rw [ByteArray.size_append, strNum_size]; omega)
      refine ⟨r, fun k hk => ?_⟩
      obtain ⟨k, rfl⟩ := pred_of_lt hk
      simp only [laws_markText.l0]
      rw [if_pos hp]
      simp only [Option.bind_some]
      rw [if_pos (by rw [strNum_size]; omega), hq, wr (i := a / 10) (by omega) (by omega)]
      exact hr k (by omega)
    · refine ⟨(⟨#[109]⟩ : ByteArray) ++ x, fun k hk => ?_⟩
      obtain ⟨k, rfl⟩ := pred_of_lt hk
      simp only [laws_markText.l0]
      rw [if_neg hp, if_pos (by omega)]
theorem markText_ex (a : Int) (h0 : 0 ≤ a) (h1 : a ≤ 100000000) : ∃ r, ∀ k, 9 < k → laws_markText.f k a = some r := by
  unfold laws_markText.f
  by_cases h : a ≤ 0
  · exact ⟨_, fun k hk => by rw [if_pos h]⟩
  · obtain ⟨r, hr⟩ := markText_l0 9 a (⟨#[]⟩ : ByteArray) h0 (by omega) (by omega) (by show 0 + 9 ≤ 1000; omega)
    exact ⟨r, fun k hk => by rw [if_neg h]; exact hr k hk⟩
def mt (a : Int) : ByteArray := (laws_markText.f 10 a).getD ByteArray.empty
theorem markText_eq (a : Int) (h0 : 0 ≤ a) (h1 : a ≤ 100000000) (k : Nat) (hk : 9 < k) : laws_markText.f k a = some (mt a) := by
  obtain ⟨r, hr⟩ := markText_ex a h0 h1
  unfold mt
  rw [hr k hk, hr 10 (by omega)]; rfl
def seqS (a : Int) (n : Nat) : List ByteArray := (List.range n).map fun (j : Nat) => mt (a + (j : Int))
theorem seqS_len (a : Int) (n : Nat) : (seqS a n).length = n := by simp [seqS]
theorem seqS_get (a : Int) (n j : Nat) (h : j < n) : (seqS a n)[j]? = some (mt (a + (j : Int))) := by simp [seqS, h]
theorem markStringS_l0 (a : Int) (h0 : 0 ≤ a) (h1 : a ≤ 10000000) (n : Nat) (hn : n ≤ 10000000) (d : Nat) : ∀ (k i : Nat) (x0 : List ByteArray), x0.length = n → i ≤ n → n - i = d → d + 10 < k → (∀ j, j < i → x0[j]? = some (mt (a + (j : Int)))) →
    laws_markStringS.l0 k x0 (a + (i : Int)) (i : Int) = some (a + (n : Int), seqS a n) := by
  induction d with
  | zero =>
    intro k i x0 hl hi hd hk ht
    obtain ⟨k, rfl⟩ := pred_of_lt hk
    simp only [laws_markStringS.l0]; rw [if_neg (by omega)]
    have hin : i = n := by omega
    have : x0 = seqS a n := List.ext_getElem? fun j => by
      by_cases hj : j < i
      · rw [ht j hj, seqS_get a n j (by omega)]
      · rw [List.getElem?_eq_none (by omega), List.getElem?_eq_none (by rw [seqS_len]; omega)]
    rw [this, hin]
  | succ d ih =>
    intro k i x0 hl hi hd hk ht
    obtain ⟨k, rfl⟩ := pred_of_lt hk
    simp only [laws_markStringS.l0]; rw [if_pos (by omega), markText_eq _ (by omega) (by omega) k (by omega)]
    simp only [Option.bind_some]
    rw [if_pos (by omega), wr (by omega) (by omega), wr (by omega) (by omega)]
    have e : ((i : Int) + 1) = ((i + 1 : Nat) : Int) := by omega
    have e2 : a + (i : Int) + 1 = a + ((i + 1 : Nat) : Int) := by omega
    rw [e2, e, Int.toNat_natCast]
    refine ih k (i + 1) _ (by simpa using hl) (by omega) (by omega) (by omega) fun j hj => ?_
    rw [List.getElem?_set]
    by_cases hji : i = j
    · subst hji
      simp [show i < x0.length by omega]
    · rw [if_neg hji]; exact ht j (by omega)
theorem markStringS_eq (l : List ByteArray) (a : Int) (h0 : 0 ≤ a) (h1 : a ≤ 10000000) (h : l.length ≤ 10000000) (k : Nat) (hk : l.length + 10 < k) : laws_markStringS.f k l a = some (a + (l.length : Int), seqS a l.length) := by
  unfold laws_markStringS.f
  have := markStringS_l0 a h0 h1 l.length h l.length k 0 l rfl (by omega) (by omega) hk (fun j hj => by omega)
  simpa using this
theorem heldStringS_l0 (a : Int) (h0 : 0 ≤ a) (h1 : a ≤ 10000000) (n : Nat) (hn : n ≤ 10000000) (d : Nat) : ∀ (k i : Nat), i ≤ n → n - i = d → d + 10 < k → laws_heldStringS.l0 k (seqS a n) (a + (i : Int)) (i : Int) = some (a + (n : Int)) := by
  induction d with
  | zero =>
    intro k i hi hd hk
    obtain ⟨k, rfl⟩ := pred_of_lt hk
    simp only [laws_heldStringS.l0]; rw [seqS_len, if_neg (by omega), show i = n by omega]
  | succ d ih =>
    intro k i hi hd hk
    obtain ⟨k, rfl⟩ := pred_of_lt hk
    have hg : rdOf ByteArray.empty (seqS a n) (i : Int) = mt (a + (i : Int)) := by
      have := seqS_get a n i (by omega)
      simp only [rdOf, Int.toNat_natCast]
      rw [List.getD_eq_getElem?_getD, this]; rfl
    simp only [laws_heldStringS.l0]; rw [seqS_len, if_pos (by omega), if_pos (by omega), markText_eq _ (by omega) (by omega) k (by omega), hg]
    simp only [Option.bind_some, if_true]
    rw [wr (by omega) (by omega), wr (by omega) (by omega)]
    have e : ((i : Int) + 1) = ((i + 1 : Nat) : Int) := by omega
    have e2 : a + (i : Int) + 1 = a + ((i + 1 : Nat) : Int) := by omega
    rw [e2, e]
    exact ih k (i + 1) (by omega) (by omega) (by omega)
theorem heldStringS_eq (a : Int) (h0 : 0 ≤ a) (h1 : a ≤ 10000000) (n : Nat) (hn : n ≤ 10000000) (k : Nat) (hk : n + 10 < k) : laws_heldStringS.f k (seqS a n) a = some (a + (n : Int)) := by
  unfold laws_heldStringS.f
  have := heldStringS_l0 a h0 h1 n hn n k 0 (by omega) (by omega) hk
  simpa using this
/-! a text's pieces between the bytes that part them -/
theorem ext_list (s : ByteArray) (i : Nat) : (s.extract i s.size).data.toList = s.data.toList.drop i := by
  rw [ByteArray.data_extract, Array.toList_extract, List.extract_eq_take_drop, List.take_of_length_le]
  have := size_data s
  rw [List.length_drop]; omega
theorem indexByte_is (l : List UInt8) (c : UInt8) (m : Nat) (h1 : l[m]? = some c) (h2 : ∀ k, k < m → l[k]? ≠ some c) : Lib.indexByte l c = (m : Int) := by
  have hge := Lib.indexByte_ge l c
  by_cases hn : Lib.indexByte l c = -1
  · exact absurd h1 (Lib.indexByte_none hn m)
  · obtain ⟨o, ho⟩ : ∃ o : Nat, Lib.indexByte l c = (o : Int) := ⟨(Lib.indexByte l c).toNat, by omega⟩
    obtain ⟨a1, a2⟩ := Lib.indexByte_some ho
    have : o = m := by
      rcases Nat.lt_trichotomy o m with h | h | h
      · exact absurd a1 (h2 o h)
      · exact h
      · exact absurd h1 (a2 m h)
    rw [ho, this]
theorem indexByte_not (l : List UInt8) (c : UInt8) (h2 : ∀ k : Nat, l[k]? ≠ some c) : Lib.indexByte l c = -1 := by
  have hge := Lib.indexByte_ge l c
  by_cases hn : Lib.indexByte l c = -1
  · exact hn
  · obtain ⟨o, ho⟩ : ∃ o : Nat, Lib.indexByte l c = (o : Int) := ⟨(Lib.indexByte l c).toNat, by omega⟩
    exact absurd (Lib.indexByte_some ho).1 (h2 o)
/-- the pieces -/
def pieces (s : ByteArray) (c : UInt8) : List ByteArray := Lib.splitB ⟨#[c]⟩ 0 (Lib.countB s ⟨#[c]⟩) s
theorem pieces_end (s : ByteArray) (c : UInt8) (i : Nat) (h : ∀ k, i ≤ k → s.data.toList[k]? ≠ some c) : pieces (s.extract i s.size) c = [s.extract i s.size] := by
  unfold pieces
  refine Lib.splitB_miss _ _ _ _ ?_
  rw [strings_Split.idx]
  refine indexByte_not _ _ fun k => ?_
  rw [ext_list, List.getElem?_drop]
  exact h _ (by omega)
theorem pieces_hit (s : ByteArray) (c : UInt8) (i j : Nat) (hij : i ≤ j) (hj : j < s.size) (h1 : s.data.toList[j]? = some c) (h2 : ∀ k, i ≤ k → k < j → s.data.toList[k]? ≠ some c) :
    pieces (s.extract i s.size) c = s.extract i j :: pieces (s.extract (j + 1) s.size) c := by
  have hi : Lib.indexB (s.extract i s.size) ⟨#[c]⟩ = ((j - i : Nat) : Int) := by
    rw [strings_Split.idx]
    refine indexByte_is _ _ _ ?_ fun k hk => ?_
    · rw [ext_list, List.getElem?_drop, show i + (j - i) = j by omega]; exact h1
    · rw [ext_list, List.getElem?_drop]; exact h2 _ (by omega) (by omega)
  have hz : (s.extract i s.size).size = s.size - i := by rw [ByteArray.size_extract, Nat.min_self]
  have e1 : (s.extract i s.size).extract (j - i + (⟨#[c]⟩ : ByteArray).size) (s.extract i s.size).size = s.extract (j + 1) s.size := by
    rw [ByteArray.extract_extract, hz]
    show s.extract (i + (j - i + 1)) (min (i + (s.size - i)) s.size) = _
    rw [show i + (j - i + 1) = j + 1 by omega, show min (i + (s.size - i)) s.size = s.size by omega]
  have e2 : (s.extract i s.size).extract 0 (j - i + 0) = s.extract i j := by
    rw [ByteArray.extract_extract, show i + 0 = i by omega, show min (i + (j - i + 0)) s.size = j by omega]
  unfold pieces
  rw [Lib.countB_hit (s.extract i s.size) (⟨#[c]⟩ : ByteArray) (j - i) (Nat.le_refl 1) hi, e1, Nat.add_comm, Lib.splitB_hit _ _ _ _ _ hi, e1, e2]
theorem getL (s : ByteArray) (j : Nat) (h : j < s.size) : s.data.toList[j]? = some (s.data.toList[j]'(by rw [size_data]; exact h)) := List.getElem?_eq_getElem _
theorem l1Split_l0 (s : ByteArray) (hs : s.size ≤ 1048576) (c : UInt8) (d : Nat) : ∀ (k i j : Nat) (x : List ByteArray), i ≤ j → j ≤ s.size → s.size - j = d → d < k → x.length ≤ j → (∀ m, i ≤ m → m < j → s.data.toList[m]? ≠ some c) →
    spec_l1Split.l0 k s (c.toNat : Int) x (i : Int) (j : Int) = some (x ++ pieces (s.extract i s.size) c) := by
  have hsz := size_data s
  induction d with
  | zero =>
    intro k i j x hij hj hd hk hx hn
    obtain ⟨k, rfl⟩ := pred_of_lt hk
    simp only [spec_l1Split.l0]
    rw [if_neg (by omega), if_pos (by omega), if_pos (by omega), if_pos (by omega), pieces_end s c i (fun m hm => by
      by_cases h : m < j
      · exact hn m hm h
      · rw [List.getElem?_eq_none (by omega)]; exact fun h => by cases h), Int.toNat_natCast]
  | succ d ih =>
    intro k i j x hij hj hd hk hx hn
    obtain ⟨k, rfl⟩ := pred_of_lt hk
    have c1 : (j : Int) < (s.size : Int) := by omega
    have c2 : (0 : Int) ≤ (j : Int) := by omega
    have e1 : wrap64 ((j : Int) + 1) = ((j + 1 : Nat) : Int) := by rw [wr (by omega) (by omega)]; omega
    simp only [spec_l1Split.l0, c1, c2, if_true, e1, Int.toNat_natCast]
    by_cases hc : bt s (j : Int) = (c.toNat : Int)
    · rw [if_pos hc, if_pos (by omega), if_pos (by omega), if_pos (by omega), if_pos (by omega)]
      rw [bt_is s j (by omega) c _ rfl] at hc
      rw [ih k (j + 1) (j + 1) _ (by omega) (by omega) (by omega) (by omega) (by simp; omega) (fun m h1 h2 => by omega),
        pieces_hit s c i j hij (by omega) (by rw [getL s j (by omega), hc]) hn, List.append_assoc]
      rfl
    · rw [if_neg hc]
      rw [bt_is s j (by omega) c _ rfl] at hc
      exact ih k i (j + 1) x (by omega) (by omega) (by omega) (by omega) (by omega) (fun m h1 h2 => by
        by_cases h : m = j
        · subst h; rw [getL s m (by omega)]; exact fun h => hc (Option.some.inj h)
        · exact hn m h1 (by omega))
theorem whole (s : ByteArray) : s.extract 0 s.size = s := ByteArray.extract_zero_size
theorem l1Split_eq (s : ByteArray) (hs : s.size ≤ 1048576) (c : UInt8) (k : Nat) (hk : s.size < k) : spec_l1Split.f k s (c.toNat : Int) = some (pieces s c) := by
  unfold spec_l1Split.f
  have := l1Split_l0 s hs c s.size k 0 0 [] (by omega) (by omega) (by omega) hk (by simp) (fun m h1 h2 => by omega)
  rw [whole] at this
  simpa using this
theorem iSplit_eq (s : ByteArray) (hs : s.size ≤ 1048576) (c : UInt8) : strings_Split.f s ⟨#[c]⟩ = some (pieces s c) := by
  show (if s.size < 4294967281 then some (Lib.splitB ⟨#[c]⟩ 0 (Lib.countB s ⟨#[c]⟩) s) else none) = _
  rw [if_pos (by omega)]; rfl
theorem pieces_len (s : ByteArray) (c : UInt8) : (pieces s c).length ≤ s.size + 1 := by
  unfold pieces
  have := Lib.countB_le (⟨#[c]⟩ : ByteArray) (Nat.le_refl 1) s.size s (Nat.le_refl _)
  have := Lib.splitB_all (⟨#[c]⟩ : ByteArray) (Nat.le_refl 1) 0 _ s rfl
  omega
theorem one_byte (a : ByteArray) (h : (a.size : Int) = 1) : ∃ c : UInt8, a = ⟨#[c]⟩ := by
  obtain ⟨⟨l⟩⟩ := a
  match l, h with
  | [c], _ => exact ⟨c, rfl⟩
theorem splitAns (a0 a1 : ByteArray) (hs : a0.size ≤ 1048576) : ∃ R : List ByteArray × Bool, R.1.length ≤ 1048576 ∧ (∀ k, 1048576 < k → spec_SplitString.f k a0 a1 = some R) ∧ impl_SplitString.f a0 a1 = some R := by
  unfold impl_SplitString.f
  by_cases h1 : (a1.size : Int) = 1
  · obtain ⟨c, rfl⟩ := one_byte a1 h1
    by_cases h2 : (a0.size : Int) > 4000
    · refine ⟨([], false), by simp, fun k hk => ?_, by rw [if_pos h2]⟩
      unfold spec_SplitString.f
      rw [if_pos h1, if_pos h2]
    · refine ⟨(pieces a0 c, true), ?_, fun k hk => ?_, ?_⟩
      · have := pieces_len a0 c
        show (pieces a0 c).length ≤ _
        omega
      · unfold spec_SplitString.f
        rw [if_pos h1, if_neg h2, if_pos (by rw [h1]; decide)]
        have : bt (⟨#[c]⟩ : ByteArray) 0 = (c.toNat : Int) := rfl
        rw [this, l1Split_eq a0 hs c k (by omega)]; rfl
      · rw [if_neg h2, if_pos h1, iSplit_eq a0 hs c]; rfl
  · by_cases h2 : (a0.size : Int) > 4000
    · refine ⟨([], false), by simp, fun k hk => ?_, by rw [if_pos h2]⟩
      unfold spec_SplitString.f
      rw [if_neg h1]
    · refine ⟨([], false), by simp, fun k hk => ?_, by rw [if_neg h2, if_neg h1]⟩
      unfold spec_SplitString.f
      rw [if_neg h1]
theorem FnExactSplitString : laws_FnExactSplitString.Pure := by
  intro a0 a1 _ _
  by_cases hsz : (a0.size : Int) > 1048576
  · exact ⟨0, by unfold laws_FnExactSplitString.f; rw [if_pos hsz]⟩
  by_cases hsz2 : (a1.size : Int) > 1048576
  · exact ⟨0, by unfold laws_FnExactSplitString.f; rw [if_neg hsz, if_pos hsz2]⟩
  obtain ⟨R, hl, hS, hI⟩ := splitAns a0 a1 (by omega)
  obtain ⟨⟨rl, rb⟩, hl, hS, hI⟩ := splitAns a0 a1 (by omega)
  have hl : rl.length ≤ 1048576 := hl
  obtain ⟨M, hM⟩ : ∃ M : Nat, 4194400 ≤ M := ⟨4194400, Nat.le_refl _⟩
  refine ⟨M + 3, ?_⟩
  have p2 := hS (M + 3) (by omega)
  have p4 := eqStringS_self rl hl (M + 3) (by omega)
  have r1 := markStringS_eq rl 1 (by omega) (by omega) (by omega) (M + 2) (by omega)
  have r2 := heldStringS_eq 1 (by omega) (by omega) rl.length (by omega) (M + 2) (by omega)
  have r5 := eqStringS_self rl hl (M + 2) (by omega)
  have s1 := heldStringS_eq 1 (by omega) (by omega) rl.length (by omega) (M + 1) (by omega)
  unfold laws_FnExactSplitString.f
  rw [if_neg hsz, if_neg hsz2]
  simp only [p2, hI, p4, Option.bind_some, if_true, bne_self_eq_false]
  simp only [laws_FnExactSplitString.j0, r1, r2, Option.bind_some, if_true, Bool.false_eq_true, if_false]
  rw [if_neg (by omega)]
  simp only [hI, r5, Option.bind_some, if_true, Bool.false_eq_true, if_false, bne_self_eq_false]
  simp only [laws_FnExactSplitString.j1, s1, Option.bind_some, if_true, Bool.false_eq_true, if_false]
  rw [if_neg (by omega)]

end Go.Proofs.YtppnajkkhemopaaDoor.Pure
