/- VerifyChecksum of the program and of the reference answer alike at every text. -/
import Derived.Test.YthmkplobmmafdaaDoorHFnExactVerifyChecksumx2
namespace Go.Proofs.YthmkplobmmafdaaDoor.Pure
open Go.RowKit Go.Proofs.YthmkplobmmafdaaDoor.HFnExactVerifyChecksum Go.Proofs.YthmkplobmmafdaaDoorW.PrintWords Go.Proofs.YthmkplobmmafdaaDoorW.PrintLast
set_option linter.unusedVariables false
set_option linter.unusedSimpArgs false
set_option linter.unnecessarySimpa false

theorem wr {i : Int} (h0 : -9223372036854775808 ≤ i) (h1 : i ≤ 9223372036854775807) : wrap64 i = i := by unfold wrap64; omega
theorem rd_nat (xs : List Int) (i : Nat) : rd xs (i : Int) = xs.getD i 0 := by simp [rd]
theorem rd_get (xs : List Int) (i : Nat) (h : i < xs.length) : rd xs (i : Int) = xs[i] := by simp [rd, h]
theorem pred_of_lt {d k : Nat} (h : d < k) : ∃ m, k = m + 1 := ⟨k - 1, by omega⟩
/-! bytes of a text -/
theorem size_data (s : ByteArray) : s.data.toList.length = s.size := Array.length_toList
theorem bt_nat (s : ByteArray) (i : Nat) (h : i < s.size) : bt s (i : Int) = ((s.data.toList[i]'(by rw [size_data]; exact h)).toNat : Int) := by
  have := bt_at s (i : Int) (by simpa using h)
  rw [← this]
  rfl
theorem byte_num (b c : UInt8) (n : Nat) (hc : c.toNat = n) : ((b.toNat : Int) = (n : Int)) ↔ b = c := by
  constructor
  · intro h
    exact UInt8.toNat_inj.1 (by omega)
  · rintro rfl; omega
/-! what is left when bytes of a set are taken off both ends -/
theorem dropWhile_nil {p : UInt8 → Bool} (l : List UInt8) : l.dropWhile p = [] ↔ l.all p = true := by
  induction l with
  | nil => simp
  | cons a l ih =>
    rw [List.dropWhile_cons]
    by_cases h : p a = true
    · rw [if_pos h, ih]; simp [h]
    · rw [if_neg h]; simp [h]
theorem toList_nil (l : List UInt8) : ((⟨l.toArray⟩ : ByteArray).toList == ([] : List UInt8)) = l.isEmpty := by
  have : (⟨l.toArray⟩ : ByteArray).toList = l := by
    rw [ByteArray.toList_eq]
  rw [this]
  cases l <;> rfl
theorem bt_is (s : ByteArray) (i : Nat) (h : i < s.size) (c : UInt8) (n : Int) (hc : (c.toNat : Int) = n) : (bt s (i : Int) = n) ↔ (s.data.toList[i]'(by rw [size_data]; exact h)) = c := by
  rw [bt_nat s i h, ← hc]
  constructor
  · intro e; exact UInt8.toNat_inj.1 (by omega)
  · intro e; rw [e]
/-! a text as a list of bytes, and as a list of numbers -/
def txt (l : List UInt8) : ByteArray := ⟨l.toArray⟩
theorem txt_data (l : List UInt8) : (txt l).data.toList = l := rfl
theorem txt_size (l : List UInt8) : (txt l).size = l.length := by rw [← size_data, txt_data]
theorem txt_of (s : ByteArray) : txt s.data.toList = s := rfl
theorem txt_app (l m : List UInt8) : txt l ++ txt m = txt (l ++ m) := by
  apply ByteArray.ext
  apply Array.toList_inj.1
  rw [ByteArray.data_append, Array.toList_append]
  rfl
/-! does a byte stand in a text -/
def hasB (c : UInt8) (s : ByteArray) : Bool := s.data.toList.any fun b => b == c
theorem idx_has (l : List UInt8) (c : UInt8) : (0 ≤ Lib.indexByte l c) ↔ (l.any fun b => b == c) = true := by
  induction l with
  | nil => exact ⟨fun h => absurd (show (0 : Int) ≤ -1 from h) (by decide), fun h => by cases h⟩
  | cons b l ih =>
    have hge := Lib.indexByte_ge l c
    have e : Lib.indexByte (b :: l) c = if (b == c) = true then 0 else if (Lib.indexByte l c == -1) = true then -1 else Lib.indexByte l c + 1 := rfl
    rw [e, List.any_cons]
    by_cases h : (b == c) = true
    · rw [if_pos h, h]; simp
    · rw [if_neg h, (Bool.not_eq_true _).mp h, Bool.false_or, ← ih]
      by_cases h1 : (Lib.indexByte l c == -1) = true
      · rw [if_pos h1]
        have := beq_iff_eq.1 h1
        rw [this]
      · rw [if_neg h1]
        have h2 : Lib.indexByte l c ≠ -1 := fun e => h1 (beq_iff_eq.2 e)
        omega
theorem contains_eq (s : ByteArray) (c : UInt8) : strings_Contains.f s ⟨#[c]⟩ = some (hasB c s) := by
  show some (decide (0 ≤ Lib.indexByte s.data.toList c)) = _
  refine congrArg some ?_
  rw [Bool.eq_iff_iff, decide_eq_true_eq]
  exact idx_has _ _
/-! the numeral of a number, as the reference writes it -/
theorem digit_text (d : Nat) (h : d < 10) : (⟨#[48, 49, 50, 51, 52, 53, 54, 55, 56, 57]⟩ : ByteArray).extract d (d + 1) = txt [UInt8.ofNat (48 + d)] := by
  apply ByteArray.ext; apply Array.toList_inj.1
  rw [ByteArray.data_extract, Array.toList_extract, List.extract_eq_take_drop]
  match d, h with
  | 0, _ => rfl
  | 1, _ => rfl
  | 2, _ => rfl
  | 3, _ => rfl
  | 4, _ => rfl
  | 5, _ => rfl
  | 6, _ => rfl
  | 7, _ => rfl
  | 8, _ => rfl
  | 9, _ => rfl
  | n + 10, h => omega
theorem dec_small (n : Nat) (h : n < 10) : Lib.decDigits n = [UInt8.ofNat (48 + n)] := by
  rw [Lib.decDigits, dif_pos h]
theorem dec_big (n : Nat) (h : ¬ n < 10) : Lib.decDigits n = Lib.decDigits (n / 10) ++ [UInt8.ofNat (48 + n % 10)] := by
  rw [Lib.decDigits, dif_neg h]
theorem dec_len : ∀ (n m : Nat), m ≤ n → (Lib.decDigits m).length ≤ n + 1 := by
  intro n
  induction n with
  | zero =>
    intro m hm
    rw [dec_small m (by omega)]; simp
  | succ n ih =>
    intro m hm
    by_cases h : m < 10
    · rw [dec_small m h]; simp
    · have := ih (m / 10) (by omega)
      rw [dec_big m h, List.length_append, List.length_singleton]; omega
theorem num_small (k n : Nat) (h : n < 10) : spec_l1Num.f (k + 1) (n : Int) = some (txt (Lib.decDigits n)) := by
  have e : wrap64 ((n : Int) + 1) = ((n + 1 : Nat) : Int) := by rw [wr (by omega) (by omega)]; omega
  simp only [spec_l1Num.f, e, Int.toNat_natCast]
  rw [if_neg (by omega), if_pos (by omega), if_pos (by omega), if_pos (by omega), if_pos (by omega), digit_text n h, dec_small n h]
theorem num_pos (N : Nat) : ∀ (n : Nat), n ≤ N → n ≤ 1000000000 → ∀ k, n < k → spec_l1Num.f k (n : Int) = some (txt (Lib.decDigits n)) := by
  induction N with
  | zero =>
    intro n hn _ k hk
    obtain ⟨k, rfl⟩ := pred_of_lt hk
    exact num_small k n (by omega)
  | succ N ih =>
    intro n hn hb k hk
    obtain ⟨k, rfl⟩ := pred_of_lt hk
    by_cases h : n < 10
    · exact num_small k n h
    · have e1 : Int.tdiv (n : Int) 10 = ((n / 10 : Nat) : Int) := (Int.ofNat_tdiv n 10).symm
      have e2 : Int.tmod (n : Int) 10 = ((n % 10 : Nat) : Int) := (Int.ofNat_tmod n 10).symm
      have hd : n / 10 ≤ N := by omega
      have hm : n % 10 < 10 := Nat.mod_lt _ (by omega)
      have r := ih (n / 10) hd (by omega) k (by omega)
      obtain ⟨q, hq⟩ : ∃ q, q = n / 10 := ⟨_, rfl⟩
      obtain ⟨m, hmm⟩ : ∃ m, m = n % 10 := ⟨_, rfl⟩
      rw [← hq] at e1 r hd
      rw [← hmm] at e2 hm
      have e3 : wrap64 ((q : Nat) : Int) = ((q : Nat) : Int) := by rw [wr (by omega) (by omega)]
      have e4 : wrap64 (((m : Nat) : Int) + 1) = ((m + 1 : Nat) : Int) := by clear e3; rw [wr (by omega) (by omega)]; omega
      have hl := dec_len q q (Nat.le_refl _)
      have g1 : ¬ ((n : Int) < 0) := by clear ih r e3 e4; omega
      have g2 : ¬ ((n : Int) < 10) := by clear ih r e3 e4; omega
      have g3 : (0 : Int) ≤ ((m : Nat) : Int) := by clear ih r e3 e4; omega
      have g4 : ((m : Nat) : Int) ≤ ((m + 1 : Nat) : Int) := by clear ih r e3 e4; omega
      have g5 : ((m + 1 : Nat) : Int) ≤ 10 := by clear ih r e3 e4; omega
      have g6 : (txt (Lib.decDigits q)).size + (txt [UInt8.ofNat (48 + m)]).size ≤ 9223372036854775807 := by
        rw [txt_size, txt_size, List.length_singleton]; clear ih r e3 e4; omega
      simp only [spec_l1Num.f, g1, g2, if_false, e1, e2, e3, e4, r, Option.bind_some, g3, g4, g5, if_true, Int.toNat_natCast, digit_text m hm, g6, txt_app]
      rw [dec_big n h, hq, hmm]
theorem num_neg (N : Nat) : ∀ (n : Nat), n ≤ N → 1 ≤ n → n ≤ 1000000000 → ∀ k, n + 1 < k → spec_l1Num.f k (-(n : Int)) = some (txt (45 :: Lib.decDigits n)) := by
  induction N with
  | zero => intro n h1 h2; omega
  | succ N ih =>
    intro n hn h1 hb k hk
    obtain ⟨k, rfl⟩ : ∃ m, k = m + 1 := ⟨k - 1, by omega⟩
    have g1 : (-(n : Int) < 0) := by omega
    by_cases h : n < 10
    · have g2 : (-(n : Int) > (-10)) := by omega
      have e : wrap64 (-(-(n : Int))) = (n : Int) := by rw [wr (by omega) (by omega)]; omega
      have r := num_pos n n (Nat.le_refl _) (by omega) k (by omega)
      have g3 : 1 + (txt (Lib.decDigits n)).size ≤ 9223372036854775807 := by
        rw [dec_small n h, txt_size, List.length_singleton]; omega
      simp only [spec_l1Num.f, g1, g2, if_true, e, r, Option.bind_some, g3]
      show some (txt [45] ++ txt (Lib.decDigits n)) = _
      rw [txt_app]; rfl
    · have g2 : ¬ (-(n : Int) > (-10)) := by omega
      have e1 : Int.tdiv (-(n : Int)) 10 = -((n / 10 : Nat) : Int) := by rw [Int.neg_tdiv]; rw [Int.ofNat_tdiv]; rfl
      have e2 : Int.tmod (-(n : Int)) 10 = -((n % 10 : Nat) : Int) := by rw [Int.neg_tmod]; rw [Int.ofNat_tmod]; rfl
      have hd : n / 10 ≤ N := by omega
      have hd1 : 1 ≤ n / 10 := by omega
      have hm : n % 10 < 10 := Nat.mod_lt _ (by omega)
      have r := ih (n / 10) hd hd1 (by omega) k (by omega)
      have r2 := num_pos (n % 10) (n % 10) (Nat.le_refl _) (by omega) k (by omega)
      obtain ⟨q, hq⟩ : ∃ q, q = n / 10 := ⟨_, rfl⟩
      obtain ⟨m, hmm⟩ : ∃ m, m = n % 10 := ⟨_, rfl⟩
      rw [← hq] at e1 r hd
      rw [← hmm] at e2 hm r2
      have e3 : wrap64 (-((q : Nat) : Int)) = -((q : Nat) : Int) := by rw [wr (by omega) (by omega)]
      have e4 : wrap64 (- -((m : Nat) : Int)) = ((m : Nat) : Int) := by clear e3; rw [wr (by omega) (by omega)]; omega
      have hl := dec_len q q (Nat.le_refl _)
      have g6 : (txt (45 :: Lib.decDigits q)).size + (txt (Lib.decDigits m)).size ≤ 9223372036854775807 := by
        rw [txt_size, txt_size, dec_small m hm, List.length_singleton, List.length_cons]; clear ih r r2 e3 e4; omega
      simp only [spec_l1Num.f, g1, g2, if_true, if_false, e1, e2, e3, e4, r, r2, Option.bind_some, g6, txt_app]
      rw [dec_big n h, ← hq, ← hmm, dec_small m hm, List.cons_append]
theorem num_eq (a : Int) (h0 : -1000000000 ≤ a) (h1 : a ≤ 1000000000) (k : Nat) (hk : 1000000002 ≤ k) : spec_l1Num.f k a = some (txt (Lib.itoa a)) := by
  unfold Lib.itoa
  by_cases h : a < 0
  · rw [if_pos h]
    have := num_neg a.natAbs a.natAbs (Nat.le_refl _) (by omega) (by omega) k (by omega)
    rw [show -((a.natAbs : Nat) : Int) = a by omega] at this
    exact this
  · rw [if_neg h]
    have := num_pos a.toNat a.toNat (Nat.le_refl _) (by omega) k (by omega)
    rw [show ((a.toNat : Nat) : Int) = a by omega] at this
    exact this
theorem itoa_eq (a : Int) (h0 : -1000000000 ≤ a) (h1 : a ≤ 1000000000) : strconv_Itoa.f a = some (txt (Lib.itoa a)) := by
  unfold strconv_Itoa.f
  rw [if_pos (by omega), if_pos (by omega)]; rfl
/-! a text with its checksum, as both sides write it -/
theorem tmod_in (x : Int) (h : 0 ≤ x) : 0 ≤ Int.tmod x 999979 ∧ Int.tmod x 999979 < 999979 := by
  rw [Int.tmod_eq_emod_of_nonneg h]
  omega
theorem sum_both (s : ByteArray) (hn : s.size ≤ 1048576) (d : Nat) : ∀ (k : Nat) (h : Int) (i : Nat), i ≤ s.size → s.size - i = d → d < k → 0 ≤ h → h < 999979 →
    ∃ r, 0 ≤ r ∧ r < 999979 ∧ spec_l1Sum.l0 k s h (i : Int) = some r ∧ impl_checksum.l0 k s h (s.size : Int) (i : Int) = some r := by
  induction d with
  | zero =>
    intro k h i hi hd hk h0 h1
    obtain ⟨k, rfl⟩ := pred_of_lt hk
    refine ⟨h, h0, h1, ?_, ?_⟩
    · simp only [spec_l1Sum.l0]; rw [if_neg (by omega)]
    · simp only [impl_checksum.l0]; rw [if_neg (by omega)]
  | succ d ih =>
    intro k h i hi hd hk h0 h1
    obtain ⟨k, rfl⟩ := pred_of_lt hk
    have hb : 0 ≤ bt s (i : Int) ∧ bt s (i : Int) < 256 := by
      rw [bt_nat s i (by omega)]
      have := (s.data.toList[i]'(by rw [size_data]; omega)).toNat_lt
      omega
    obtain ⟨b, hbb⟩ : ∃ b, bt s (i : Int) = b := ⟨_, rfl⟩
    rw [hbb] at hb
    have c1 : (i : Int) < (s.size : Int) := by omega
    have c2 : (0 : Int) ≤ (i : Int) := by omega
    have e1 : wrap64 ((i : Int) + 1) = ((i + 1 : Nat) : Int) := by rw [wr (by omega) (by omega)]; omega
    have e2 : wrap64 ((wrap64 ((wrap64 (41 * h)) + (wrap64 b))) + 1) = 41 * h + b + 1 := by
      clear e1
      rw [wr (i := 41 * h) (by omega) (by omega), wr (i := b) (by omega) (by omega), wr (i := 41 * h + b) (by omega) (by omega), wr (by omega) (by omega)]
    have ht := tmod_in (41 * h + b + 1) (by clear e1 e2; omega)
    obtain ⟨r, r0, r1, hr, hr'⟩ := ih k (Int.tmod (41 * h + b + 1) 999979) (i + 1) (by clear e1 e2; omega) (by clear e1 e2; omega) (by clear e1 e2; omega) ht.1 ht.2
    refine ⟨r, r0, r1, ?_, ?_⟩
    · simp only [spec_l1Sum.l0, hbb, e1, e2, c1, c2, if_true]; exact hr
    · simp only [impl_checksum.l0, hbb, e1, e2, c1, c2, if_true]; exact hr'
/-- the seal of a text: what both sides put behind it -/
theorem seal_ex (s : ByteArray) (hn : s.size ≤ 1048576) : ∃ t : ByteArray, s.size ≤ t.size ∧ ∀ k, 1000000002 ≤ k → spec_l1Seal.f k s = some t ∧ impl_AppendChecksum.f k s = if hasB 35 s = true then some ((⟨#[]⟩ : ByteArray), false) else if (t.size : Int) > 4000 then some ((⟨#[]⟩ : ByteArray), false) else some (t, true) := by
  obtain ⟨r, r0, r1, _, _⟩ := sum_both s hn s.size (s.size + 1) 7 0 (by omega) (by omega) (by omega) (by omega) (by omega)
  have h35 : (⟨#[35]⟩ : ByteArray).size = 1 := rfl
  have key : ∃ r : Int, 0 ≤ r ∧ r < 999979 ∧ ∀ k, s.size + 1 ≤ k → spec_l1Sum.f k s = some r ∧ impl_checksum.f k s = some r := by
    obtain ⟨r, r0, r1, h1, h2⟩ := sum_both s hn s.size (s.size + 1) 7 0 (by omega) (by omega) (by omega) (by omega) (by omega)
    refine ⟨r, r0, r1, fun k hk => ⟨?_, ?_⟩⟩
    · exact at_rounds (g := fun k => spec_l1Sum.l0 k s 7 0) (fun k => (spec_l1Sum.mono_l k) _ _ _) hk h1
    · exact at_rounds (g := fun k => impl_checksum.l0 k s 7 (s.size : Int) 0) (fun k => (impl_checksum.mono_l k) _ _ _ _) hk h2
  clear r0 r1
  obtain ⟨r, r0, r1, hs⟩ := key
  have hi : (txt (Lib.itoa r)).size ≤ 1000000 := by
    rw [txt_size]
    unfold Lib.itoa
    rw [if_neg (by omega)]
    have := dec_len r.toNat r.toNat (Nat.le_refl _)
    omega
  have hz : (s ++ (⟨#[35]⟩ : ByteArray)).size = s.size + 1 := by rw [ByteArray.size_append, h35]
  refine ⟨(s ++ (⟨#[35]⟩ : ByteArray)) ++ txt (Lib.itoa r), by rw [ByteArray.size_append, hz]; omega, fun k hk => ⟨?_, ?_⟩⟩
  · unfold spec_l1Seal.f
    rw [if_pos (by omega), (hs k (by omega)).1]
    simp only [Option.bind_some]
    rw [num_eq r (by omega) (by omega) k hk]
    simp only [Option.bind_some]
    rw [if_pos (by omega)]
  · unfold impl_AppendChecksum.f
    rw [if_pos (by omega), (hs k (by omega)).2]
    simp only [Option.bind_some]
    rw [itoa_eq r (by omega) (by omega)]
    simp only [Option.bind_some]
    rw [if_pos (by omega), contains_eq]
    simp only [Option.bind_some]
/-! what stands ahead of the first sign of a text -/
theorem toList_inj (a b : ByteArray) : a.toList = b.toList ↔ a = b := by
  rw [ByteArray.toList_eq, ByteArray.toList_eq]
  constructor
  · intro h; exact ByteArray.ext (Array.toList_inj.1 h)
  · rintro rfl; rfl
theorem split_later (s : ByteArray) (hs : s.size ≤ 1048576) (x1 : Int) (t : ByteArray) (d : Nat) : ∀ (k i from_ : Nat) (L : List ByteArray), i ≤ s.size → s.size - i = d → d < k → from_ ≤ i → L.length ≤ i + 1 → 0 < L.length → rdOf ByteArray.empty L 0 = t →
    ∃ R, spec_l1Split.l0 k s x1 L (from_ : Int) (i : Int) = some R ∧ 0 < R.length ∧ rdOf ByteArray.empty R 0 = t := by
  have app : ∀ (L : List ByteArray) (x : ByteArray), 0 < L.length → rdOf ByteArray.empty L 0 = t → rdOf ByteArray.empty (L ++ [x]) 0 = t := by
    intro L x h0 h
    cases L with
    | nil => simp at h0
    | cons a L => exact h
  induction d with
  | zero =>
    intro k i from_ L hi hd hk hf hl h0 ht
    obtain ⟨k, rfl⟩ := pred_of_lt hk
    refine ⟨_, ?_, ?_, app L (s.extract (from_ : Int).toNat s.size) h0 ht⟩
    · simp only [spec_l1Split.l0]
      rw [if_neg (by omega), if_pos (by omega), if_pos (by omega), if_pos (by omega)]
    · simp
  | succ d ih =>
    intro k i from_ L hi hd hk hf hl h0 ht
    obtain ⟨k, rfl⟩ := pred_of_lt hk
    have e1 : wrap64 ((i : Int) + 1) = ((i + 1 : Nat) : Int) := by rw [wr (by omega) (by omega)]; omega
    simp only [spec_l1Split.l0, e1]
    rw [if_pos (by omega), if_pos (by omega)]
    by_cases hb : bt s (i : Int) = x1
    · rw [if_pos hb, if_pos (by omega), if_pos (by omega), if_pos (by omega), if_pos (by omega)]
      exact ih k (i + 1) (i + 1) _ (by omega) (by omega) (by omega) (Nat.le_refl _) (by simp; omega) (by simp) (app L _ h0 ht)
    · rw [if_neg hb]
      exact ih k (i + 1) from_ L (by omega) (by omega) (by omega) (by omega) (by omega) h0 ht
theorem indexByte_is (l : List UInt8) (c : UInt8) (m : Nat) (h1 : l[m]? = some c) (h2 : ∀ k, k < m → l[k]? ≠ some c) : Lib.indexByte l c = (m : Int) := by
  have hge := Lib.indexByte_ge l c
  by_cases hn : Lib.indexByte l c = -1
  · exact absurd h1 (Lib.indexByte_none hn m)
  · obtain ⟨o, ho⟩ : ∃ o : Nat, Lib.indexByte l c = (o : Int) := ⟨(Lib.indexByte l c).toNat, by omega⟩
    obtain ⟨a1, a2⟩ := Lib.indexByte_some ho
    have : o = m := by
      rcases Nat.lt_trichotomy o m with h | h | h
      · exact absurd a1 (h2 o h)
      · exact h
      · exact absurd h1 (a2 m h)
    rw [ho, this]
theorem ext_any (s : ByteArray) (i : Nat) (h : (s.data.toList.take i).any (fun b => b == (35 : UInt8)) = false) : hasB 35 (s.extract 0 i) = false := by
  unfold hasB
  rw [ByteArray.data_extract, Array.toList_extract, List.extract_eq_take_drop]
  simpa using h
theorem cut_at (s : ByteArray) (hs : s.size ≤ 1048576) (i : Nat) (h : Lib.indexByte s.data.toList 35 = (i : Int)) (hi : i < s.size) : ∃ b1 b2, strings_Cut.f s (⟨#[35]⟩ : ByteArray) = some (s.extract 0 i, b1, b2) := by
  have h1 : stringslite_Index.f s (⟨#[35]⟩ : ByteArray) = some (Lib.indexByte s.data.toList 35) := rfl
  have h35 : (⟨#[35]⟩ : ByteArray).size = 1 := rfl
  have e : wrap64 ((i : Int) + ((1 : Nat) : Int)) = ((i + 1 : Nat) : Int) := by rw [wr (by omega) (by omega)]; omega
  unfold strings_Cut.f stringslite_Cut.f
  rw [h1, h]
  simp only [Option.bind_some, h35, e, Int.toNat_natCast]
  rw [if_pos (by omega), if_pos (by omega), if_pos (by omega), if_pos (by omega), if_pos (by omega)]
  exact ⟨_, _, rfl⟩
theorem cut_none (s : ByteArray) (h : Lib.indexByte s.data.toList 35 = -1) : ∃ b1 b2, strings_Cut.f s (⟨#[35]⟩ : ByteArray) = some (s, b1, b2) := by
  have h1 : stringslite_Index.f s (⟨#[35]⟩ : ByteArray) = some (Lib.indexByte s.data.toList 35) := rfl
  unfold strings_Cut.f stringslite_Cut.f
  rw [h1, h]
  simp only [Option.bind_some]
  rw [if_neg (by omega)]
  exact ⟨_, _, rfl⟩
theorem ext_whole (s : ByteArray) : s.extract 0 s.size = s := by
  apply ByteArray.ext; apply Array.toList_inj.1
  rw [ByteArray.data_extract, Array.toList_extract, List.extract_eq_take_drop]
  rw [Nat.sub_zero, List.drop_zero, List.take_of_length_le (by rw [size_data]; omega)]
theorem first_l0 (s : ByteArray) (hs : s.size ≤ 1048576) (d : Nat) : ∀ (i : Nat), i ≤ s.size → s.size - i = d → (s.data.toList.take i).any (fun b => b == (35 : UInt8)) = false →
    ∃ t : ByteArray, t.size ≤ s.size ∧ hasB 35 t = false ∧ (∃ b1 b2, strings_Cut.f s (⟨#[35]⟩ : ByteArray) = some (t, b1, b2)) ∧ ∀ k, d < k → ∃ R, spec_l1Split.l0 k s 35 [] 0 (i : Int) = some R ∧ 0 < R.length ∧ rdOf ByteArray.empty R 0 = t := by
  have hsz := size_data s
  have z0 : (0 : Int).toNat = 0 := rfl
  induction d with
  | zero =>
    intro i hi hd ht
    have hin : Lib.indexByte s.data.toList 35 = -1 := by
      by_cases hn : 0 ≤ Lib.indexByte s.data.toList 35
      · rw [idx_has] at hn
        rw [List.take_of_length_le (by omega), hn] at ht; cases ht
      · have := Lib.indexByte_ge s.data.toList 35; omega
    refine ⟨s, Nat.le_refl _, ?_, cut_none s hin, fun k hk => ?_⟩
    · unfold hasB; rw [List.take_of_length_le (by omega)] at ht; exact ht
    · obtain ⟨k, rfl⟩ := pred_of_lt hk
      refine ⟨[s], ?_, by simp, rfl⟩
      simp only [spec_l1Split.l0]
      rw [if_neg (by omega), if_pos (by omega), if_pos (by omega), if_pos (by simp), z0, ext_whole]; rfl
  | succ d ih =>
    intro i hi hd ht
    have hlt : i < s.data.toList.length := by omega
    have e1 : wrap64 ((i : Int) + 1) = ((i + 1 : Nat) : Int) := by rw [wr (by omega) (by omega)]; omega
    by_cases hb : s.data.toList[i] = 35
    · have hix : Lib.indexByte s.data.toList 35 = (i : Int) := by
        refine indexByte_is _ _ _ (by rw [List.getElem?_eq_getElem hlt, hb]) fun k hk => ?_
        intro e
        have hm : (35 : UInt8) ∈ s.data.toList.take i := by
          rw [List.mem_take_iff_getElem]
          obtain ⟨h1, h2⟩ := List.getElem?_eq_some_iff.1 e
          exact ⟨k, by omega, h2⟩
        have := List.any_eq_false.1 ht _ hm
        simp at this
      refine ⟨s.extract 0 i, by rw [ByteArray.size_extract]; omega, ext_any s i ht, cut_at s hs i hix (by omega), fun k hk => ?_⟩
      obtain ⟨k, rfl⟩ := pred_of_lt hk
      have hbt : bt s (i : Int) = 35 := by rw [bt_nat s i (by omega), hb]; rfl
      simp only [spec_l1Split.l0, e1]
      rw [if_pos (by omega), if_pos (by omega), if_pos hbt, if_pos (by omega), if_pos (by omega), if_pos (by omega), if_pos (by simp)]
      exact split_later s hs 35 (s.extract 0 i) d k (i + 1) (i + 1) _ (by omega) (by omega) (by omega) (Nat.le_refl _) (by simp) (by simp) rfl
    · obtain ⟨t, h1, h2, h3, h4⟩ := ih (i + 1) (by omega) (by omega) (by
        rw [List.take_succ_eq_append_getElem hlt, List.any_append, ht, Bool.false_or]
        simp only [List.any_cons, List.any_nil, Bool.or_false]
        exact beq_eq_false_iff_ne.2 hb)
      refine ⟨t, h1, h2, h3, fun k hk => ?_⟩
      obtain ⟨k, rfl⟩ := pred_of_lt hk
      have hbt : ¬ bt s (i : Int) = 35 := by
        rw [bt_nat s i (by omega)]
        intro e; apply hb; apply UInt8.toNat_inj.1; show _ = 35; omega
      simp only [spec_l1Split.l0, e1]
      rw [if_pos (by omega), if_pos (by omega), if_neg hbt]
      exact h4 k (by omega)
theorem head_ex (s : ByteArray) (hs : s.size ≤ 1048576) : ∃ (t : ByteArray) (L : Nat → List ByteArray), t.size ≤ s.size ∧ hasB 35 t = false ∧ (∀ k, s.size < k → spec_l1Split.f k s 35 = some (L k) ∧ 0 < ((L k).length : Int) ∧ rdOf ByteArray.empty (L k) 0 = t) ∧ ∃ b1 b2, strings_Cut.f s (⟨#[35]⟩ : ByteArray) = some (t, b1, b2) := by
  obtain ⟨t, h1, h2, h3, h4⟩ := first_l0 s hs s.size 0 (by omega) (by omega) (by simp)
  refine ⟨t, fun k => (spec_l1Split.f k s 35).getD [], h1, h2, fun k hk => ?_, h3⟩
  obtain ⟨R, r1, r2, r3⟩ := h4 k hk
  have r1' : spec_l1Split.f k s 35 = some R := r1
  have e : (spec_l1Split.f k s 35).getD [] = R := by rw [r1']; rfl
  show spec_l1Split.f k s 35 = some ((spec_l1Split.f k s 35).getD []) ∧ 0 < ((((spec_l1Split.f k s 35).getD []).length : Nat) : Int) ∧ rdOf ByteArray.empty ((spec_l1Split.f k s 35).getD []) 0 = t
  rw [e]
  exact ⟨r1', by omega, r3⟩
theorem FnExactVerifyChecksum : laws_FnExactVerifyChecksum.Pure := by
  intro s hs
  by_cases h : (s.size : Int) > 1048576
  · refine ⟨0, ?_⟩
    unfold laws_FnExactVerifyChecksum.f
    rw [if_pos h]
  · obtain ⟨M, hM⟩ : ∃ M : Nat, 1000000002 ≤ M := ⟨1000000002, Nat.le_refl _⟩
    obtain ⟨t, L, hts, hno, hL, hcut⟩ := head_ex s (by omega)
    obtain ⟨u, hu, hb⟩ := seal_ex t (by omega)
    obtain ⟨s1, s2⟩ := hb M hM
    obtain ⟨hL, hL0⟩ := hL M (by omega)
    refine ⟨M, ?_⟩
    unfold laws_FnExactVerifyChecksum.f spec_VerifyChecksum.f impl_VerifyChecksum.f
    obtain ⟨b1, b2, hc⟩ := hcut
    rw [if_neg h, hL, hc]
    simp only [Option.bind_some, s2, hno, Bool.false_eq_true, if_false]
    by_cases h4 : (s.size : Int) > 4000
    · rw [if_pos h4]
      by_cases h5 : (u.size : Int) > 4000
      · rw [if_pos h5]; simp
      · rw [if_neg h5]
        have hne : ¬ u.toList = s.toList := by
          intro e
          rw [toList_inj] at e
          rw [e] at h5; exact h5 h4
        simp [hne]
    · rw [if_neg h4, if_pos (by exact hL0.1), hL0.2, s1]
      simp only [Option.bind_some]
      by_cases he : u.toList = s.toList
      · have h5 : ¬ (u.size : Int) > 4000 := by
          rw [toList_inj] at he
          rw [he]; exact h4
        rw [if_pos he, if_neg h5]
        simp [he]
      · rw [if_neg he]
        by_cases h5 : (u.size : Int) > 4000
        · rw [if_pos h5]; simp
        · rw [if_neg h5]; simp [he]

end Go.Proofs.YthmkplobmmafdaaDoor.Pure
