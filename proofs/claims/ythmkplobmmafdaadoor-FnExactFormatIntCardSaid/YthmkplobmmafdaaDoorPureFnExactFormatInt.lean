/- FormatInt of the program and of the reference answer alike at every number. -/
import Derived.Test.YthmkplobmmafdaaDoorHFnExactFormatIntx1
namespace Go.Proofs.YthmkplobmmafdaaDoor.Pure
open Go.RowKit Go.Proofs.YthmkplobmmafdaaDoor.HFnExactFormatInt Go.Proofs.YthmkplobmmafdaaDoorW.PrintWords Go.Proofs.YthmkplobmmafdaaDoorW.PrintLast
set_option linter.unusedVariables false
set_option linter.unusedSimpArgs false
set_option linter.unnecessarySimpa false

theorem wr {i : Int} (h0 : -9223372036854775808 ≤ i) (h1 : i ≤ 9223372036854775807) : wrap64 i = i := by unfold wrap64; omega
theorem rd_nat (xs : List Int) (i : Nat) : rd xs (i : Int) = xs.getD i 0 := by simp [rd]
theorem rd_get (xs : List Int) (i : Nat) (h : i < xs.length) : rd xs (i : Int) = xs[i] := by simp [rd, h]
theorem pred_of_lt {d k : Nat} (h : d < k) : ∃ m, k = m + 1 := ⟨k - 1, by omega⟩
/-! bytes of a text -/
theorem size_data (s : ByteArray) : s.data.toList.length = s.size := Array.length_toList
theorem bt_nat (s : ByteArray) (i : Nat) (h : i < s.size) : bt s (i : Int) = ((s.data.toList[i]'(by rw [size_data]; exact h)).toNat : Int) := by
  have := bt_at s (i : Int) (by simpa using h)
  rw [← this]
  rfl
theorem byte_num (b c : UInt8) (n : Nat) (hc : c.toNat = n) : ((b.toNat : Int) = (n : Int)) ↔ b = c := by
  constructor
  · intro h
    exact UInt8.toNat_inj.1 (by omega)
  · rintro rfl; omega
/-! what is left when bytes of a set are taken off both ends -/
theorem dropWhile_nil {p : UInt8 → Bool} (l : List UInt8) : l.dropWhile p = [] ↔ l.all p = true := by
  induction l with
  | nil => simp
  | cons a l ih =>
    rw [List.dropWhile_cons]
    by_cases h : p a = true
    · rw [if_pos h, ih]; simp [h]
    · rw [if_neg h]; simp [h]
theorem toList_nil (l : List UInt8) : ((⟨l.toArray⟩ : ByteArray).toList == ([] : List UInt8)) = l.isEmpty := by
  have : (⟨l.toArray⟩ : ByteArray).toList = l := by
    rw [ByteArray.toList_eq]
  rw [this]
  cases l <;> rfl
theorem l1In_eq (a b c : Int) : spec_l1In.f a b c = some (decide (b ≤ a) && decide (a ≤ c)) := by
  unfold spec_l1In.f
  by_cases h : a ≥ b
  · rw [if_pos h]; simp [show b ≤ a from h]
  · rw [if_neg h]; simp [show ¬ b ≤ a from h]
theorem in_eq (a b c : Int) : impl_in.f a b c = some (decide (b ≤ a) && decide (a ≤ c)) := by
  unfold impl_in.f
  by_cases h : a ≥ b
  · rw [if_pos h]; simp [show b ≤ a from h]
  · rw [if_neg h]; simp [show ¬ b ≤ a from h]
/-! a text as a list of bytes, and as a list of numbers -/
def txt (l : List UInt8) : ByteArray := ⟨l.toArray⟩
theorem txt_data (l : List UInt8) : (txt l).data.toList = l := rfl
theorem txt_size (l : List UInt8) : (txt l).size = l.length := by rw [← size_data, txt_data]
theorem txt_of (s : ByteArray) : txt s.data.toList = s := rfl
theorem txt_app (l m : List UInt8) : txt l ++ txt m = txt (l ++ m) := by
  apply ByteArray.ext
  apply Array.toList_inj.1
  rw [ByteArray.data_append, Array.toList_append]
  rfl
/-! the numeral of a number, as the reference writes it -/
theorem digit_text (d : Nat) (h : d < 10) : (⟨#[48, 49, 50, 51, 52, 53, 54, 55, 56, 57]⟩ : ByteArray).extract d (d + 1) = txt [UInt8.ofNat (48 + d)] := by
  apply ByteArray.ext; apply Array.toList_inj.1
  rw [ByteArray.data_extract, Array.toList_extract, List.extract_eq_take_drop]
  match d, h with
  | 0, _ => rfl
  | 1, _ => rfl
  | 2, _ => rfl
  | 3, _ => rfl
  | 4, _ => rfl
  | 5, _ => rfl
  | 6, _ => rfl
  | 7, _ => rfl
  | 8, _ => rfl
  | 9, _ => rfl
  | n + 10, h => omega
theorem dec_small (n : Nat) (h : n < 10) : Lib.decDigits n = [UInt8.ofNat (48 + n)] := by
  rw [Lib.decDigits, dif_pos h]
theorem dec_big (n : Nat) (h : ¬ n < 10) : Lib.decDigits n = Lib.decDigits (n / 10) ++ [UInt8.ofNat (48 + n % 10)] := by
  rw [Lib.decDigits, dif_neg h]
theorem dec_len : ∀ (n m : Nat), m ≤ n → (Lib.decDigits m).length ≤ n + 1 := by
  intro n
  induction n with
  | zero =>
    intro m hm
    rw [dec_small m (by omega)]; simp
  | succ n ih =>
    intro m hm
    by_cases h : m < 10
    · rw [dec_small m h]; simp
    · have := ih (m / 10) (by omega)
      rw [dec_big m h, List.length_append, List.length_singleton]; omega
theorem num_small (k n : Nat) (h : n < 10) : spec_l1Num.f (k + 1) (n : Int) = some (txt (Lib.decDigits n)) := by
  have e : wrap64 ((n : Int) + 1) = ((n + 1 : Nat) : Int) := by rw [wr (by omega) (by omega)]; omega
  simp only [spec_l1Num.f, e, Int.toNat_natCast]
  rw [if_neg (by omega), if_pos (by omega), if_pos (by omega), if_pos (by omega), if_pos (by omega), digit_text n h, dec_small n h]
theorem num_pos (N : Nat) : ∀ (n : Nat), n ≤ N → n ≤ 1000000000 → ∀ k, n < k → spec_l1Num.f k (n : Int) = some (txt (Lib.decDigits n)) := by
  induction N with
  | zero =>
    intro n hn _ k hk
    obtain ⟨k, rfl⟩ := pred_of_lt hk
    exact num_small k n (by omega)
  | succ N ih =>
    intro n hn hb k hk
    obtain ⟨k, rfl⟩ := pred_of_lt hk
    by_cases h : n < 10
    · exact num_small k n h
    · have e1 : Int.tdiv (n : Int) 10 = ((n / 10 : Nat) : Int) := (Int.ofNat_tdiv n 10).symm
      have e2 : Int.tmod (n : Int) 10 = ((n % 10 : Nat) : Int) := (Int.ofNat_tmod n 10).symm
      have hd : n / 10 ≤ N := by omega
      have hm : n % 10 < 10 := Nat.mod_lt _ (by omega)
      have r := ih (n / 10) hd (by omega) k (by omega)
      obtain ⟨q, hq⟩ : ∃ q, q = n / 10 := ⟨_, rfl⟩
      obtain ⟨m, hmm⟩ : ∃ m, m = n % 10 := ⟨_, rfl⟩
      rw [← hq] at e1 r hd
      rw [← hmm] at e2 hm
      have e3 : wrap64 ((q : Nat) : Int) = ((q : Nat) : Int) := by rw [wr (by omega) (by omega)]
      have e4 : wrap64 (((m : Nat) : Int) + 1) = ((m + 1 : Nat) : Int) := by clear e3; rw [wr (by omega) (by omega)]; omega
      have hl := dec_len q q (Nat.le_refl _)
      have g1 : ¬ ((n : Int) < 0) := by clear ih r e3 e4; omega
      have g2 : ¬ ((n : Int) < 10) := by clear ih r e3 e4; omega
      have g3 : (0 : Int) ≤ ((m : Nat) : Int) := by clear ih r e3 e4; omega
      have g4 : ((m : Nat) : Int) ≤ ((m + 1 : Nat) : Int) := by clear ih r e3 e4; omega
      have g5 : ((m + 1 : Nat) : Int) ≤ 10 := by clear ih r e3 e4; omega
      have g6 : (txt (Lib.decDigits q)).size + (txt [UInt8.ofNat (48 + m)]).size ≤ 9223372036854775807 := by
        rw [txt_size, txt_size, List.length_singleton]; clear ih r e3 e4; omega
      simp only [spec_l1Num.f, g1, g2, if_false, e1, e2, e3, e4, r, Option.bind_some, g3, g4, g5, if_true, Int.toNat_natCast, digit_text m hm, g6, txt_app]
      rw [dec_big n h, hq, hmm]
theorem num_neg (N : Nat) : ∀ (n : Nat), n ≤ N → 1 ≤ n → n ≤ 1000000000 → ∀ k, n + 1 < k → spec_l1Num.f k (-(n : Int)) = some (txt (45 :: Lib.decDigits n)) := by
  induction N with
  | zero => intro n h1 h2; omega
  | succ N ih =>
    intro n hn h1 hb k hk
    obtain ⟨k, rfl⟩ : ∃ m, k = m + 1 := ⟨k - 1, by omega⟩
    have g1 : (-(n : Int) < 0) := by omega
    by_cases h : n < 10
    · have g2 : (-(n : Int) > (-10)) := by omega
      have e : wrap64 (-(-(n : Int))) = (n : Int) := by rw [wr (by omega) (by omega)]; omega
      have r := num_pos n n (Nat.le_refl _) (by omega) k (by omega)
      have g3 : 1 + (txt (Lib.decDigits n)).size ≤ 9223372036854775807 := by
        rw [dec_small n h, txt_size, List.length_singleton]; omega
      simp only [spec_l1Num.f, g1, g2, if_true, e, r, Option.bind_some, g3]
      show some (txt [45] ++ txt (Lib.decDigits n)) = _
      rw [txt_app]; rfl
    · have g2 : ¬ (-(n : Int) > (-10)) := by omega
      have e1 : Int.tdiv (-(n : Int)) 10 = -((n / 10 : Nat) : Int) := by rw [Int.neg_tdiv]; rw [Int.ofNat_tdiv]; rfl
      have e2 : Int.tmod (-(n : Int)) 10 = -((n % 10 : Nat) : Int) := by rw [Int.neg_tmod]; rw [Int.ofNat_tmod]; rfl
      have hd : n / 10 ≤ N := by omega
      have hd1 : 1 ≤ n / 10 := by omega
      have hm : n % 10 < 10 := Nat.mod_lt _ (by omega)
      have r := ih (n / 10) hd hd1 (by omega) k (by omega)
      have r2 := num_pos (n % 10) (n % 10) (Nat.le_refl _) (by omega) k (by omega)
      obtain ⟨q, hq⟩ : ∃ q, q = n / 10 := ⟨_, rfl⟩
      obtain ⟨m, hmm⟩ : ∃ m, m = n % 10 := ⟨_, rfl⟩
      rw [← hq] at e1 r hd
      rw [← hmm] at e2 hm r2
      have e3 : wrap64 (-((q : Nat) : Int)) = -((q : Nat) : Int) := by rw [wr (by omega) (by omega)]
      have e4 : wrap64 (- -((m : Nat) : Int)) = ((m : Nat) : Int) := by clear e3; rw [wr (by omega) (by omega)]; omega
      have hl := dec_len q q (Nat.le_refl _)
      have g6 : (txt (45 :: Lib.decDigits q)).size + (txt (Lib.decDigits m)).size ≤ 9223372036854775807 := by
        rw [txt_size, txt_size, dec_small m hm, List.length_singleton, List.length_cons]; clear ih r r2 e3 e4; omega
      simp only [spec_l1Num.f, g1, g2, if_true, if_false, e1, e2, e3, e4, r, r2, Option.bind_some, g6, txt_app]
      rw [dec_big n h, ← hq, ← hmm, dec_small m hm, List.cons_append]
theorem num_eq (a : Int) (h0 : -1000000000 ≤ a) (h1 : a ≤ 1000000000) (k : Nat) (hk : 1000000002 ≤ k) : spec_l1Num.f k a = some (txt (Lib.itoa a)) := by
  unfold Lib.itoa
  by_cases h : a < 0
  · rw [if_pos h]
    have := num_neg a.natAbs a.natAbs (Nat.le_refl _) (by omega) (by omega) k (by omega)
    rw [show -((a.natAbs : Nat) : Int) = a by omega] at this
    exact this
  · rw [if_neg h]
    have := num_pos a.toNat a.toNat (Nat.le_refl _) (by omega) k (by omega)
    rw [show ((a.toNat : Nat) : Int) = a by omega] at this
    exact this
theorem itoa_eq (a : Int) (h0 : -1000000000 ≤ a) (h1 : a ≤ 1000000000) : strconv_Itoa.f a = some (txt (Lib.itoa a)) := by
  unfold strconv_Itoa.f
  rw [if_pos (by omega), if_pos (by omega)]; rfl
theorem FnExactFormatInt : laws_FnExactFormatInt.Pure := by
  intro a _
  obtain ⟨M, hM⟩ : ∃ M : Nat, 1000000002 ≤ M := ⟨1000000002, Nat.le_refl _⟩
  refine ⟨M, ?_⟩
  unfold laws_FnExactFormatInt.f spec_FormatInt.f impl_FormatInt.f
  rw [l1In_eq, in_eq]
  simp only [Option.bind_some]
  by_cases h : (decide (-999999 ≤ a) && decide (a ≤ 999999)) = true
  · have h' := h
    simp only [Bool.and_eq_true, decide_eq_true_eq] at h'
    rw [if_pos h, if_pos h, num_eq a (by omega) (by omega) M hM, itoa_eq a (by omega) (by omega)]
    simp
  · rw [if_neg h, if_neg h]
    simp

end Go.Proofs.YthmkplobmmafdaaDoor.Pure
