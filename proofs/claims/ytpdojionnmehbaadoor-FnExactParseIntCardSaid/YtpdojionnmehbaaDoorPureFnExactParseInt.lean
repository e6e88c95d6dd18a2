/- ParseInt of the program and of the reference answer alike at every text. -/
import Derived.Test.YtpdojionnmehbaaDoorHFnExactParseIntx2
namespace Go.Proofs.YtpdojionnmehbaaDoor.Pure
open Go.RowKit Go.Proofs.YtpdojionnmehbaaDoor.HFnExactParseInt Go.Proofs.YtpdojionnmehbaaDoorW.PrintWords Go.Proofs.YtpdojionnmehbaaDoorW.PrintLast
set_option linter.unusedVariables false
set_option linter.unusedSimpArgs false
set_option linter.unnecessarySimpa false

theorem wr {i : Int} (h0 : -9223372036854775808 ≤ i) (h1 : i ≤ 9223372036854775807) : wrap64 i = i := by unfold wrap64; omega
theorem rd_nat (xs : List Int) (i : Nat) : rd xs (i : Int) = xs.getD i 0 := by simp [rd]
theorem rd_get (xs : List Int) (i : Nat) (h : i < xs.length) : rd xs (i : Int) = xs[i] := by simp [rd, h]
theorem pred_of_lt {d k : Nat} (h : d < k) : ∃ m, k = m + 1 := ⟨k - 1, by omega⟩
/-! bytes of a text -/
theorem size_data (s : ByteArray) : s.data.toList.length = s.size := Array.length_toList
theorem bt_nat (s : ByteArray) (i : Nat) (h : i < s.size) : bt s (i : Int) = ((s.data.toList[i]'(by rw [size_data]; exact h)).toNat : Int) := by
  have := bt_at s (i : Int) (by simpa using h)
  rw [← this]
  rfl
theorem byte_num (b c : UInt8) (n : Nat) (hc : c.toNat = n) : ((b.toNat : Int) = (n : Int)) ↔ b = c := by
  constructor
  · intro h
    exact UInt8.toNat_inj.1 (by omega)
  · rintro rfl; omega
/-! what is left when bytes of a set are taken off both ends -/
theorem dropWhile_nil {p : UInt8 → Bool} (l : List UInt8) : l.dropWhile p = [] ↔ l.all p = true := by
  induction l with
  | nil => simp
  | cons a l ih =>
    rw [List.dropWhile_cons]
    by_cases h : p a = true
    · rw [if_pos h, ih]; simp [h]
    · rw [if_neg h]; simp [h]
theorem toList_nil (l : List UInt8) : ((⟨l.toArray⟩ : ByteArray).toList == ([] : List UInt8)) = l.isEmpty := by
  have : (⟨l.toArray⟩ : ByteArray).toList = l := by
    rw [ByteArray.toList_eq]
  rw [this]
  cases l <;> rfl
theorem l1In_eq (a b c : Int) : spec_l1In.f a b c = some (decide (b ≤ a) && decide (a ≤ c)) := by
  unfold spec_l1In.f
  by_cases h : a ≥ b
  · rw [if_pos h]; simp [show b ≤ a from h]
  · rw [if_neg h]; simp [show ¬ b ≤ a from h]
theorem in_eq (a b c : Int) : impl_in.f a b c = some (decide (b ≤ a) && decide (a ≤ c)) := by
  unfold impl_in.f
  by_cases h : a ≥ b
  · rw [if_pos h]; simp [show b ≤ a from h]
  · rw [if_neg h]; simp [show ¬ b ≤ a from h]
/-! a text as a list of bytes, and as a list of numbers -/
def txt (l : List UInt8) : ByteArray := ⟨l.toArray⟩
theorem txt_data (l : List UInt8) : (txt l).data.toList = l := rfl
theorem txt_size (l : List UInt8) : (txt l).size = l.length := by rw [← size_data, txt_data]
theorem txt_of (s : ByteArray) : txt s.data.toList = s := rfl
theorem txt_app (l m : List UInt8) : txt l ++ txt m = txt (l ++ m) := by
  apply ByteArray.ext
  apply Array.toList_inj.1
  rw [ByteArray.data_append, Array.toList_append]
  rfl
/-! the numeral of a number, as the reference writes it -/
theorem digit_text (d : Nat) (h : d < 10) : (⟨#[48, 49, 50, 51, 52, 53, 54, 55, 56, 57]⟩ : ByteArray).extract d (d + 1) = txt [UInt8.ofNat (48 + d)] := by
  apply ByteArray.ext; apply Array.toList_inj.1
  rw [ByteArray.data_extract, Array.toList_extract, List.extract_eq_take_drop]
  match d, h with
  | 0, _ => rfl
  | 1, _ => rfl
  | 2, _ => rfl
  | 3, _ => rfl
  | 4, _ => rfl
  | 5, _ => rfl
  | 6, _ => rfl
  | 7, _ => rfl
  | 8, _ => rfl
  | 9, _ => rfl
  | n + 10, h => omega
theorem dec_small (n : Nat) (h : n < 10) : Lib.decDigits n = [UInt8.ofNat (48 + n)] := by
  rw [Lib.decDigits, dif_pos h]
theorem dec_big (n : Nat) (h : ¬ n < 10) : Lib.decDigits n = Lib.decDigits (n / 10) ++ [UInt8.ofNat (48 + n % 10)] := by
  rw [Lib.decDigits, dif_neg h]
theorem dec_len : ∀ (n m : Nat), m ≤ n → (Lib.decDigits m).length ≤ n + 1 := by
  intro n
  induction n with
  | zero =>
    intro m hm
    rw [dec_small m (by omega)]; simp
  | succ n ih =>
    intro m hm
    by_cases h : m < 10
    · rw [dec_small m h]; simp
    · have := ih (m / 10) (by omega)
      rw [dec_big m h, List.length_append, List.length_singleton]; omega
theorem num_small (k n : Nat) (h : n < 10) : spec_l1Num.f (k + 1) (n : Int) = some (txt (Lib.decDigits n)) := by
  have e : wrap64 ((n : Int) + 1) = ((n + 1 : Nat) : Int) := by rw [wr (by omega) (by omega)]; omega
  simp only [spec_l1Num.f, e, Int.toNat_natCast]
  rw [if_neg (by omega), if_pos (by omega), if_pos (by omega), if_pos (by omega), if_pos (by omega), digit_text n h, dec_small n h]
theorem num_pos (N : Nat) : ∀ (n : Nat), n ≤ N → n ≤ 1000000000 → ∀ k, n < k → spec_l1Num.f k (n : Int) = some (txt (Lib.decDigits n)) := by
  induction N with
  | zero =>
    intro n hn _ k hk
    obtain ⟨k, rfl⟩ := pred_of_lt hk
    exact num_small k n (by omega)
  | succ N ih =>
    intro n hn hb k hk
    obtain ⟨k, rfl⟩ := pred_of_lt hk
    by_cases h : n < 10
    · exact num_small k n h
    · have e1 : Int.tdiv (n : Int) 10 = ((n / 10 : Nat) : Int) := (Int.ofNat_tdiv n 10).symm
      have e2 : Int.tmod (n : Int) 10 = ((n % 10 : Nat) : Int) := (Int.ofNat_tmod n 10).symm
      have hd : n / 10 ≤ N := by omega
      have hm : n % 10 < 10 := Nat.mod_lt _ (by omega)
      have r := ih (n / 10) hd (by omega) k (by omega)
      obtain ⟨q, hq⟩ : ∃ q, q = n / 10 := ⟨_, rfl⟩
      obtain ⟨m, hmm⟩ : ∃ m, m = n % 10 := ⟨_, rfl⟩
      rw [← hq] at e1 r hd
      rw [← hmm] at e2 hm
      have e3 : wrap64 ((q : Nat) : Int) = ((q : Nat) : Int) := by rw [wr (by omega) (by omega)]
      have e4 : wrap64 (((m : Nat) : Int) + 1) = ((m + 1 : Nat) : Int) := by clear e3; rw [wr (by omega) (by omega)]; omega
      have hl := dec_len q q (Nat.le_refl _)
      have g1 : ¬ ((n : Int) < 0) := by clear ih r e3 e4; omega
      have g2 : ¬ ((n : Int) < 10) := by clear ih r e3 e4; omega
      have g3 : (0 : Int) ≤ ((m : Nat) : Int) := by clear ih r e3 e4; omega
      have g4 : ((m : Nat) : Int) ≤ ((m + 1 : Nat) : Int) := by clear ih r e3 e4; omega
      have g5 : ((m + 1 : Nat) : Int) ≤ 10 := by clear ih r e3 e4; omega
      have g6 : (txt (Lib.decDigits q)).size + (txt [UInt8.ofNat (48 + m)]).size ≤ 9223372036854775807 := by
        rw [txt_size, txt_size, List.length_singleton]; clear ih r e3 e4; omega
      simp only [spec_l1Num.f, g1, g2, if_false, e1, e2, e3, e4, r, Option.bind_some, g3, g4, g5, if_true, Int.toNat_natCast, digit_text m hm, g6, txt_app]
      rw [dec_big n h, hq, hmm]
theorem num_neg (N : Nat) : ∀ (n : Nat), n ≤ N → 1 ≤ n → n ≤ 1000000000 → ∀ k, n + 1 < k → spec_l1Num.f k (-(n : Int)) = some (txt (45 :: Lib.decDigits n)) := by
  induction N with
  | zero => intro n h1 h2; omega
  | succ N ih =>
    intro n hn h1 hb k hk
    obtain ⟨k, rfl⟩ : ∃ m, k = m + 1 := ⟨k - 1, by omega⟩
    have g1 : (-(n : Int) < 0) := by omega
    by_cases h : n < 10
    · have g2 : (-(n : Int) > (-10)) := by omega
      have e : wrap64 (-(-(n : Int))) = (n : Int) := by rw [wr (by omega) (by omega)]; omega
      have r := num_pos n n (Nat.le_refl _) (by omega) k (by omega)
      have g3 : 1 + (txt (Lib.decDigits n)).size ≤ 9223372036854775807 := by
        rw [dec_small n h, txt_size, List.length_singleton]; omega
      simp only [spec_l1Num.f, g1, g2, if_true, e, r, Option.bind_some, g3]
      show some (txt [45] ++ txt (Lib.decDigits n)) = _
      rw [txt_app]; rfl
    · have g2 : ¬ (-(n : Int) > (-10)) := by omega
      have e1 : Int.tdiv (-(n : Int)) 10 = -((n / 10 : Nat) : Int) := by rw [Int.neg_tdiv]; rw [Int.ofNat_tdiv]; rfl
      have e2 : Int.tmod (-(n : Int)) 10 = -((n % 10 : Nat) : Int) := by rw [Int.neg_tmod]; rw [Int.ofNat_tmod]; rfl
      have hd : n / 10 ≤ N := by omega
      have hd1 : 1 ≤ n / 10 := by omega
      have hm : n % 10 < 10 := Nat.mod_lt _ (by omega)
      have r := ih (n / 10) hd hd1 (by omega) k (by omega)
      have r2 := num_pos (n % 10) (n % 10) (Nat.le_refl _) (by omega) k (by omega)
      obtain ⟨q, hq⟩ : ∃ q, q = n / 10 := ⟨_, rfl⟩
      obtain ⟨m, hmm⟩ : ∃ m, m = n % 10 := ⟨_, rfl⟩
      rw [← hq] at e1 r hd
      rw [← hmm] at e2 hm r2
      have e3 : wrap64 (-((q : Nat) : Int)) = -((q : Nat) : Int) := by rw [wr (by omega) (by omega)]
      have e4 : wrap64 (- -((m : Nat) : Int)) = ((m : Nat) : Int) := by clear e3; rw [wr (by omega) (by omega)]; omega
      have hl := dec_len q q (Nat.le_refl _)
      have g6 : (txt (45 :: Lib.decDigits q)).size + (txt (Lib.decDigits m)).size ≤ 9223372036854775807 := by
        rw [txt_size, txt_size, dec_small m hm, List.length_singleton, List.length_cons]; clear ih r r2 e3 e4; omega
      simp only [spec_l1Num.f, g1, g2, if_true, if_false, e1, e2, e3, e4, r, r2, Option.bind_some, g6, txt_app]
      rw [dec_big n h, ← hq, ← hmm, dec_small m hm, List.cons_append]
theorem num_eq (a : Int) (h0 : -1000000000 ≤ a) (h1 : a ≤ 1000000000) (k : Nat) (hk : 1000000002 ≤ k) : spec_l1Num.f k a = some (txt (Lib.itoa a)) := by
  unfold Lib.itoa
  by_cases h : a < 0
  · rw [if_pos h]
    have := num_neg a.natAbs a.natAbs (Nat.le_refl _) (by omega) (by omega) k (by omega)
    rw [show -((a.natAbs : Nat) : Int) = a by omega] at this
    exact this
  · rw [if_neg h]
    have := num_pos a.toNat a.toNat (Nat.le_refl _) (by omega) k (by omega)
    rw [show ((a.toNat : Nat) : Int) = a by omega] at this
    exact this
/-! a numeral's digits and their number -/
def isDg (c : UInt8) : Bool := decide (48 ≤ c.toNat) && decide (c.toNat ≤ 57)
def decV : Nat → List UInt8 → Nat
  | n, [] => n
  | n, c :: l => decV (10 * n + (c.toNat - 48)) l
theorem dv_step (n j : Nat) (c : UInt8) (h : n < 10 ^ j) (hc : isDg c = true) : 10 * n + (c.toNat - 48) < 10 ^ (j + 1) := by
  simp only [isDg, Bool.and_eq_true, decide_eq_true_eq] at hc
  rw [Nat.pow_succ]
  generalize 10 ^ j = p at h
  omega
theorem dv_lt : ∀ (l : List UInt8) (n j : Nat), n < 10 ^ j → l.all isDg = true → decV n l < 10 ^ (j + l.length)
  | [], n, j, h, _ => h
  | c :: l, n, j, h, ha => by
    simp only [List.all_cons, Bool.and_eq_true] at ha
    have := dv_lt l _ (j + 1) (dv_step n j c h ha.1) ha.2
    show decV (10 * n + (c.toNat - 48)) l < 10 ^ (j + (c :: l).length)
    rw [List.length_cons, show j + (l.length + 1) = j + 1 + l.length by omega]
    exact this
/-- the reference's answer, once the sign is off -/
def finI (L : List UInt8) (m : Int) : Int × Bool := if Lib.itoa m = L then (m, true) else (0, false)
def sgn (neg : Bool) (n : Nat) : Int := if neg = true then -(n : Int) else (n : Int)
def resI (L T : List UInt8) (neg : Bool) : Int × Bool := if 1 ≤ T.length ∧ T.length ≤ 6 then (if T.all isDg = true then finI L (sgn neg (decV 0 T)) else (0, false)) else (0, false)
theorem num_is (k : Nat) (hk : 1000000002 ≤ k) (m : Int) (h0 : -999999 ≤ m) (h1 : m ≤ 999999) (s : ByteArray) : ((spec_l1Num.f k m).bind fun t => (if t.toList = s.toList then (some (m, true)) else (some (0, false)))) = some (finI s.data.toList m) := by
  rw [num_eq m (by omega) (by omega) k hk, Option.bind_some, ByteArray.toList_eq, ByteArray.toList_eq, txt_data]
  unfold finI
  split <;> rfl
theorem small_pow (i n : Nat) (h : i ≤ 6) (hn : n < 10 ^ i) : n ≤ 999999 := by
  have p : 10 ^ i ≤ 10 ^ 6 := Nat.pow_le_pow_right (by omega) h
  have e : (10 : Nat) ^ 6 = 1000000 := by decide
  rw [e] at p
  generalize 10 ^ i = q at p hn
  omega
theorem l0_eq (s t : ByteArray) (ht : t.size ≤ 6) (neg : Bool) (hneg : neg = decide (t.size < s.size)) (K : Nat) (hK : 1000000002 ≤ K) (d : Nat) : ∀ (k i n : Nat), i ≤ t.size → t.size - i = d → k = K + d + 1 → n < 10 ^ i →
    spec_l1Read.l0 k s t (n : Int) (i : Int) = some (if (t.data.toList.drop i).all isDg = true then finI s.data.toList (sgn neg (decV n (t.data.toList.drop i))) else (0, false)) := by
  have hlen := size_data t
  induction d with
  | zero =>
    intro k i n hi hd hk hn
    subst hk
    have hn2 : n ≤ 999999 := small_pow i n (by omega) hn
    clear hn
    have e : wrap64 (-(n : Int)) = -(n : Int) := by rw [wr (by omega) (by omega)]
    rw [List.drop_eq_nil_of_le (by omega), Nat.add_zero]
    rw [List.all_nil, if_pos rfl, show decV n [] = n from rfl]
    simp only [spec_l1Read.l0, e]
    rw [if_neg (by omega), num_is K hK _ (by omega) (by omega), num_is K hK _ (by omega) (by omega)]
    by_cases h : t.size < s.size
    · rw [if_pos (by omega)]
      unfold sgn
      rw [hneg, decide_eq_true h, if_pos rfl]
    · rw [if_neg (by omega)]
      unfold sgn
      rw [hneg, decide_eq_false h, if_neg (by simp)]
  | succ d ih =>
    intro k i n hi hd hk hn
    obtain ⟨k, rfl⟩ : ∃ m, k = m + 1 := ⟨K + d + 1, by omega⟩
    have hlt : i < t.size := by omega
    have hl2 : i < t.data.toList.length := by omega
    obtain ⟨c, hc⟩ : ∃ c, t.data.toList[i]'hl2 = c := ⟨_, rfl⟩
    have hb := bt_nat t i hlt
    rw [hc] at hb
    have hc256 := c.toNat_lt
    have hn9 : n ≤ 999999 := small_pow i n (by omega) hn
    rw [List.drop_eq_getElem_cons hl2, hc, List.all_cons, show decV n (c :: t.data.toList.drop (i + 1)) = decV (10 * n + (c.toNat - 48)) (t.data.toList.drop (i + 1)) from rfl]
    have c1 : (i : Int) < (t.size : Int) := by omega
    have c2 : (0 : Int) ≤ (i : Int) := by omega
    simp only [spec_l1Read.l0, c1, c2, if_true, hb]
    by_cases g1 : c.toNat < 48
    · have gd : isDg c = false := by unfold isDg; rw [decide_eq_false (by omega)]; rfl
      rw [if_pos (by omega), gd, Bool.false_and, if_neg (by simp)]
    · rw [if_neg (by omega)]
      by_cases g2 : c.toNat > 57
      · have gd : isDg c = false := by unfold isDg; rw [decide_eq_false (p := c.toNat ≤ 57) (by omega), Bool.and_false]
        rw [if_pos (by omega), gd, Bool.false_and, if_neg (by simp)]
      · have gd : isDg c = true := by unfold isDg; rw [decide_eq_true (by omega), decide_eq_true (by omega)]; rfl
        have hn2 := dv_step n i c hn gd
        have r := ih k (i + 1) (10 * n + (c.toNat - 48)) (by omega) (by omega) (by omega) hn2
        have e0 : wrap64 (10 * (n : Int)) = 10 * (n : Int) := by clear r; rw [wr (by omega) (by omega)]
        have e1 : wrap64 (10 * (n : Int) + ((c.toNat : Int) - 48) % 256) = ((10 * n + (c.toNat - 48) : Nat) : Int) := by clear r e0; rw [wr (by omega) (by omega)]; omega
        have e2 : wrap64 ((i : Int) + 1) = ((i + 1 : Nat) : Int) := by clear r e0 e1; rw [wr (by omega) (by omega)]; omega
        rw [if_neg (by clear r e0 e1 e2; omega), e0, e1, e2, r, gd, Bool.true_and]
theorem j1_eq (s t : ByteArray) (neg : Bool) (hneg : neg = decide (t.size < s.size)) (k : Nat) (hk : 1000000014 ≤ k) : spec_l1Read.j1 k s t = some (resI s.data.toList t.data.toList neg) := by
  have hlen := size_data t
  obtain ⟨k, rfl⟩ : ∃ m, k = m + 1 := ⟨k - 1, by omega⟩
  simp only [spec_l1Read.j1, l1In_eq, Option.bind_some]
  unfold resI
  by_cases h : 1 ≤ t.size ∧ t.size ≤ 6
  · have g : (decide ((1 : Int) ≤ (t.size : Int)) && decide ((t.size : Int) ≤ 6)) = true := by simp; omega
    have r := l0_eq s t h.2 neg hneg (k - t.size - 1) (by clear g; omega) t.size k 0 0 (by omega) (by omega) (by omega) (by simp)
    rw [List.drop_zero, Int.natCast_zero] at r
    rw [g, if_pos rfl, r, if_pos (show 1 ≤ t.data.toList.length ∧ t.data.toList.length ≤ 6 by rw [hlen]; exact h)]
  · have g : (decide ((1 : Int) ≤ (t.size : Int)) && decide ((t.size : Int) ≤ 6)) = false := by
      by_cases a : 1 ≤ t.size
      · rw [decide_eq_false (p := ((t.size : Int) ≤ 6)) (by omega), Bool.and_false]
      · rw [decide_eq_false (p := ((1 : Int) ≤ (t.size : Int))) (by omega), Bool.false_and]
    rw [g, if_neg (by simp), if_neg (by rw [hlen]; exact h)]
/-! the library's reading of a numeral of few digits -/
theorem pu_eq : ∀ (l : List UInt8) (n j : Nat), n < 10 ^ j → j + l.length ≤ 17 → l.all isDg = true → Lib.parseUint10 n l = .ok (decV n l)
  | [], n, j, _, _, _ => rfl
  | c :: l, n, j, hn, hj, ha => by
    simp only [List.all_cons, Bool.and_eq_true] at ha
    rw [List.length_cons] at hj
    have st := dv_step n j c hn ha.1
    have p : 10 ^ (j + 1) ≤ 10 ^ 17 := Nat.pow_le_pow_right (by omega) (by omega)
    have r := pu_eq l _ (j + 1) st (by omega) ha.2
    have hc := ha.1
    simp only [isDg, Bool.and_eq_true, decide_eq_true_eq] at hc
    have p2 : 10 ^ 17 = 100000000000000000 := by decide
    rw [show decV n (c :: l) = decV (10 * n + (c.toNat - 48)) l from rfl, Lib.parseUint10, if_pos hc, if_neg (by clear r; omega), if_neg (by clear r; omega), show n * 10 + (c.toNat - 48) = 10 * n + (c.toNat - 48) by omega]
    exact r
theorem mag_eq (l : List UInt8) (h1 : 1 ≤ l.length) (h6 : l.length ≤ 6) (ha : l.all isDg = true) : Lib.parseMag l = .ok (decV 0 l) ∧ decV 0 l ≤ 999999 := by
  have h := dv_lt l 0 0 (by simp) ha
  have p : 10 ^ (0 + l.length) ≤ 10 ^ 6 := Nat.pow_le_pow_right (by omega) (by omega)
  refine ⟨?_, by omega⟩
  unfold Lib.parseMag
  rw [if_neg (by intro e; rw [e] at h1; simp at h1)]
  exact pu_eq l 0 0 (by simp) (by omega) ha
theorem dec_dg : ∀ (N n : Nat), n ≤ N → (Lib.decDigits n).all isDg = true := by
  intro N
  have dg : ∀ d, d < 10 → isDg (UInt8.ofNat (48 + d)) = true := fun d hd => by
    match d, hd with
    | 0, _ => rfl
    | 1, _ => rfl
    | 2, _ => rfl
    | 3, _ => rfl
    | 4, _ => rfl
    | 5, _ => rfl
    | 6, _ => rfl
    | 7, _ => rfl
    | 8, _ => rfl
    | 9, _ => rfl
    | n + 10, h => omega
  induction N with
  | zero =>
    intro n hn
    rw [dec_small n (by omega)]; rw [List.all_cons, dg n (by omega)]; rfl
  | succ N ih =>
    intro n hn
    by_cases h : n < 10
    · rw [dec_small n h]; rw [List.all_cons, dg n h]; rfl
    · rw [dec_big n h, List.all_append, ih (n / 10) (by omega)]
      rw [List.all_cons, dg (n % 10) (Nat.mod_lt _ (by omega))]; rfl
theorem dec_len_le : ∀ (k n : Nat), n < 10 ^ (k + 1) → 1 ≤ (Lib.decDigits n).length ∧ (Lib.decDigits n).length ≤ k + 1 := by
  intro k
  induction k with
  | zero =>
    intro n hn
    rw [dec_small n (by omega)]; simp
  | succ k ih =>
    intro n hn
    by_cases h : n < 10
    · rw [dec_small n h]; simp
    · rw [Nat.pow_succ] at hn
      have := ih (n / 10) (by omega)
      rw [dec_big n h, List.length_append, List.length_singleton]; omega
/-- the program's answer -/
def ansI (L : List UInt8) : Int × Bool :=
  match Lib.atoiAll L with
  | .ok v => if Lib.itoa v = L then (if v ≥ -999999 then (if v ≤ 999999 then (v, true) else (0, false)) else (0, false)) else (0, false)
  | _ => (0, false)
theorem impl_eq (s : ByteArray) (hs : s.size ≤ 1000000000) : impl_ParseInt.f s = some (ansI s.data.toList) := by
  unfold impl_ParseInt.f ansI
  rw [if_pos hs]
  cases Lib.atoiAll s.data.toList
  case ok v =>
    have e : ((⟨(Lib.itoa v).toArray⟩ : ByteArray) = s) ↔ (Lib.itoa v = s.data.toList) := by
      constructor
      · intro h; rw [← h]
      · intro h
        apply ByteArray.ext; apply Array.toList_inj.1; rw [← h]
    by_cases g : Lib.itoa v = s.data.toList
    · simp only [if_pos g, if_pos (e.2 g)]
    · simp only [if_neg g, if_neg (fun q => g (e.1 q))]
  all_goals rfl
/-- a good numeral, once its sign is off, has one to six digits -/
theorem good_num (L T : List UInt8) (neg : Bool) (hT : (neg = true ∧ L = 45 :: T ∧ T ≠ []) ∨ (neg = false ∧ L = T ∧ ∀ r, L = 45 :: r → r = [])) (v : Int) (h0 : -999999 ≤ v) (h1 : v ≤ 999999) (h : Lib.itoa v = L) : (1 ≤ T.length ∧ T.length ≤ 6) ∧ T.all isDg = true := by
  have key : ∀ n : Nat, n ≤ 999999 → (1 ≤ (Lib.decDigits n).length ∧ (Lib.decDigits n).length ≤ 6) ∧ (Lib.decDigits n).all isDg = true := fun n hn => ⟨dec_len_le 5 n (by omega), dec_dg n n (Nat.le_refl _)⟩
  have h45 : isDg 45 = false := rfl
  unfold Lib.itoa at h
  by_cases hv : v < 0
  · rw [if_pos hv] at h
    rcases hT with ⟨_, hL, _⟩ | ⟨_, hL, hr⟩
    · rw [hL] at h
      have := (List.cons.inj h).2
      rw [← this]; exact key _ (by omega)
    · have := hr _ h.symm
      have k := key v.natAbs (by omega)
      rw [this] at k; simp at k
  · rw [if_neg hv] at h
    have k := key v.toNat (by omega)
    rcases hT with ⟨_, hL, _⟩ | ⟨_, hL, _⟩
    · rw [h, hL] at k
      have := k.2
      rw [List.all_cons, h45] at this; simp at this
    · rw [← hL, ← h]; exact k
theorem res_ans (L T : List UInt8) (neg : Bool) (hT : (neg = true ∧ L = 45 :: T ∧ T ≠ []) ∨ (neg = false ∧ L = T ∧ ∀ r, L = 45 :: r → r = [])) : resI L T neg = ansI L := by
  by_cases g : (1 ≤ T.length ∧ T.length ≤ 6) ∧ T.all isDg = true
  · obtain ⟨⟨g1, g6⟩, ga⟩ := g
    obtain ⟨m1, m2⟩ := mag_eq T g1 g6 ga
    unfold resI
    rw [if_pos ⟨g1, g6⟩, if_pos ga]
    have ha : Lib.atoiAll L = .ok (sgn neg (decV 0 T)) := by
      rcases hT with ⟨hn, hL, _⟩ | ⟨hn, hL, _⟩
      · subst hL
        unfold Lib.atoiAll sgn
        have h45 : (45 : UInt8).toNat = 45 := rfl
        simp only [h45, or_true, if_true, m1, hn]
        rw [if_neg (by simp), if_neg (by omega)]
      · subst hL
        cases L with
        | nil => simp at g1
        | cons c r =>
          rw [List.all_cons, Bool.and_eq_true] at ga
          have hc := ga.1
          simp only [isDg, Bool.and_eq_true, decide_eq_true_eq] at hc
          have n45 : ¬ (c.toNat = 45) := by omega
          have n43 : ¬ (c.toNat = 43) := by omega
          unfold Lib.atoiAll sgn
          simp only [n45, n43, or_false, if_false, m1, hn, not_false_eq_true, true_and, false_and, Bool.false_eq_true]
          rw [if_neg (by omega)]
    unfold ansI finI
    rw [ha]
    have hb : -999999 ≤ sgn neg (decV 0 T) ∧ sgn neg (decV 0 T) ≤ 999999 := by
      unfold sgn; split <;> omega
    simp only [ge_iff_le, hb.1, hb.2, if_true]
  · have hr : resI L T neg = (0, false) := by
      unfold resI
      by_cases g1 : 1 ≤ T.length ∧ T.length ≤ 6
      · rw [if_pos g1, if_neg (fun q => g ⟨g1, q⟩)]
      · rw [if_neg g1]
    rw [hr]
    unfold ansI
    cases Lib.atoiAll L
    case ok v =>
      by_cases a1 : Lib.itoa v = L
      · by_cases a2 : v ≥ -999999
        · by_cases a3 : v ≤ 999999
          · exact absurd (good_num L T neg hT v a2 a3 a1) g
          · simp only [if_pos a1, if_pos a2, if_neg a3]
        · simp only [if_pos a1, if_neg a2]
      · simp only [if_neg a1]
    all_goals rfl
theorem read_eq (s : ByteArray) (hs : s.size ≤ 1000000000) (k : Nat) (hk : 1000000020 ≤ k) : spec_l1Read.f k s = some (ansI s.data.toList) := by
  have hlen := size_data s
  have same : ∀ m, 1000000015 ≤ m → (∀ r, s.data.toList = 45 :: r → r = []) → spec_l1Read.j0 m s s false = some (ansI s.data.toList) := fun m hm hr => by
    obtain ⟨m, rfl⟩ : ∃ q, m = q + 1 := ⟨m - 1, by omega⟩
    simp only [spec_l1Read.j0, Bool.false_eq_true, if_false]
    rw [j1_eq s s false (by simp) m (by omega), res_ans _ _ false (Or.inr ⟨rfl, rfl, hr⟩)]
  unfold spec_l1Read.f
  by_cases h1 : (s.size : Int) > 1
  · rw [if_pos h1, if_pos (by omega)]
    have hb := bt_nat s 0 (by omega)
    rw [Int.natCast_zero] at hb
    cases hL : s.data.toList with
    | nil => rw [hL] at hlen; simp at hlen; omega
    | cons c r =>
      have hc : s.data.toList[0]'(by omega) = c := by simp [hL]
      rw [hc] at hb
      by_cases g : c = 45
      · subst g
        have e : (bt s 0 == (45 : Int)) = true := by rw [hb]; rfl
        have hz : (s.extract 1 s.size).size = s.size - 1 := by rw [ByteArray.size_extract, Nat.min_self]
        have hd : (s.extract 1 s.size).data.toList = r := by
          rw [ByteArray.data_extract, Array.toList_extract, List.extract_eq_take_drop, hL, List.drop_succ_cons, List.drop_zero]
          rw [hL, List.length_cons] at hlen
          rw [List.take_of_length_le (by omega)]
        obtain ⟨k, rfl⟩ : ∃ q, k = q + 1 := ⟨k - 1, by omega⟩
        rw [e]
        simp only [spec_l1Read.j0, if_true]
        rw [if_pos (by omega), j1_eq s _ true (by rw [hz]; simp; omega) k (by omega), hd, res_ans _ _ true (Or.inl ⟨rfl, hL, fun q => by rw [hL, q] at hlen; simp at hlen; omega⟩), hL]
      · have e : (bt s 0 == (45 : Int)) = false := by
          rw [hb]
          have : ¬ ((c.toNat : Int) = 45) := fun q => g ((byte_num c 45 45 rfl).1 q)
          simpa using this
        rw [e, same k (by omega) (fun r' q => absurd (List.cons.inj (hL.symm.trans q)).1 g), hL]
  · rw [if_neg h1]
    exact same k (by omega) (fun r q => by
      rw [q, List.length_cons] at hlen
      exact List.eq_nil_of_length_eq_zero (by omega))
theorem FnExactParseInt : laws_FnExactParseInt.Pure := by
  intro s _
  by_cases h : (s.size : Int) > 1048576
  · refine ⟨0, ?_⟩
    unfold laws_FnExactParseInt.f
    rw [if_pos h]
  · obtain ⟨M, hM⟩ : ∃ M : Nat, 1000000020 ≤ M := ⟨1000000020, Nat.le_refl _⟩
    refine ⟨M, ?_⟩
    unfold laws_FnExactParseInt.f spec_ParseInt.f
    rw [if_neg h, read_eq s (by omega) M hM, impl_eq s (by omega)]
    simp

end Go.Proofs.YtpdojionnmehbaaDoor.Pure
