/- LineOfRuns of the program and of the reference answer alike at every list of pairs. -/
import Derived.Test.YtlfheofodhfbaaaHFnExactLineOfRunsx4
namespace Go.Proofs.Ytlfheofodhfbaaa.Pure
open Go.RowKit Go.Proofs.Ytlfheofodhfbaaa.HFnExactLineOfRuns Go.Proofs.YtlfheofodhfbaaaW.PrintWords Go.Proofs.YtlfheofodhfbaaaW.PrintLast
set_option linter.unusedVariables false
set_option linter.unusedSimpArgs false
set_option linter.unnecessarySimpa false

theorem wr {i : Int} (h0 : -9223372036854775808 ≤ i) (h1 : i ≤ 9223372036854775807) : wrap64 i = i := by unfold wrap64; omega
theorem rd_nat (xs : List Int) (i : Nat) : rd xs (i : Int) = xs.getD i 0 := by simp [rd]
theorem rd_get (xs : List Int) (i : Nat) (h : i < xs.length) : rd xs (i : Int) = xs[i] := by simp [rd, h]
theorem pred_of_lt {d k : Nat} (h : d < k) : ∃ m, k = m + 1 := ⟨k - 1, by omega⟩
/-! bytes of a text -/
theorem size_data (s : ByteArray) : s.data.toList.length = s.size := Array.length_toList
theorem bt_nat (s : ByteArray) (i : Nat) (h : i < s.size) : bt s (i : Int) = ((s.data.toList[i]'(by rw [size_data]; exact h)).toNat : Int) := by
  have := bt_at s (i : Int) (by simpa using h)
  rw [← this]
  rfl
theorem byte_num (b c : UInt8) (n : Nat) (hc : c.toNat = n) : ((b.toNat : Int) = (n : Int)) ↔ b = c := by
  constructor
  · intro h
    exact UInt8.toNat_inj.1 (by omega)
  · rintro rfl; omega
/-! what is left when bytes of a set are taken off both ends -/
theorem dropWhile_nil {p : UInt8 → Bool} (l : List UInt8) : l.dropWhile p = [] ↔ l.all p = true := by
  induction l with
  | nil => simp
  | cons a l ih =>
    rw [List.dropWhile_cons]
    by_cases h : p a = true
    · rw [if_pos h, ih]; simp [h]
    · rw [if_neg h]; simp [h]
theorem toList_nil (l : List UInt8) : ((⟨l.toArray⟩ : ByteArray).toList == ([] : List UInt8)) = l.isEmpty := by
  have : (⟨l.toArray⟩ : ByteArray).toList = l := by
    rw [ByteArray.toList_eq]
  rw [this]
  cases l <;> rfl
theorem l1In_eq (a b c : Int) : spec_l1In.f a b c = some (decide (b ≤ a) && decide (a ≤ c)) := by
  unfold spec_l1In.f
  by_cases h : a ≥ b
  · rw [if_pos h]; simp [show b ≤ a from h]
  · rw [if_neg h]; simp [show ¬ b ≤ a from h]
theorem in_eq (a b c : Int) : impl_in.f a b c = some (decide (b ≤ a) && decide (a ≤ c)) := by
  unfold impl_in.f
  by_cases h : a ≥ b
  · rw [if_pos h]; simp [show b ≤ a from h]
  · rw [if_neg h]; simp [show ¬ b ≤ a from h]
/-! a text as a list of bytes, and as a list of numbers -/
def txt (l : List UInt8) : ByteArray := ⟨l.toArray⟩
def numsOf (l : List UInt8) : List Int := l.map fun b => (b.toNat : Int)
theorem txt_data (l : List UInt8) : (txt l).data.toList = l := rfl
theorem txt_size (l : List UInt8) : (txt l).size = l.length := by rw [← size_data, txt_data]
theorem txt_of (s : ByteArray) : txt s.data.toList = s := rfl
theorem txt_app (l m : List UInt8) : txt l ++ txt m = txt (l ++ m) := by
  apply ByteArray.ext
  apply Array.toList_inj.1
  rw [ByteArray.data_append, Array.toList_append]
  rfl
theorem strOf_nums (l : List UInt8) : strOfNums (numsOf l) = txt l := by
  unfold strOfNums numsOf txt
  rw [List.map_map]
  congr 2
  rw [List.map_congr_left (g := id)]
  · simp
  · intro b _
    simp
theorem nums_app (l : List UInt8) (b : UInt8) (n : Int) (h : (b.toNat : Int) = n) : numsOf l ++ [n] = numsOf (l ++ [b]) := by
  simp [numsOf, h]
theorem nums_len (l : List UInt8) : (numsOf l).length = l.length := by simp [numsOf]
/-! a text said over and over -/
theorem repeat_one (c : UInt8) : ∀ n, Lib.repeatL [c] n = List.replicate n c
  | 0 => rfl
  | n + 1 => by rw [Lib.repeatL, repeat_one c n]; rfl
theorem many_l0 (c : UInt8) (n : Nat) (hn : n ≤ 1048576) (d : Nat) : ∀ (k i : Nat), i ≤ n → n - i = d → d < k → spec_l4Many.l0 k ⟨#[c]⟩ (n : Int) (txt (List.replicate i c)) (i : Int) = some (txt (List.replicate n c)) := by
  induction d with
  | zero =>
    intro k i hi hd hk
    obtain ⟨k, rfl⟩ := pred_of_lt hk
    simp only [spec_l4Many.l0]; rw [if_neg (by omega), show i = n by omega]
  | succ d ih =>
    intro k i hi hd hk
    obtain ⟨k, rfl⟩ := pred_of_lt hk
    have e1 : wrap64 ((i : Int) + 1) = ((i + 1 : Nat) : Int) := by rw [wr (by omega) (by omega)]; omega
    have e2 : txt (List.replicate i c) ++ (⟨#[c]⟩ : ByteArray) = txt (List.replicate (i + 1) c) := by
      show txt (List.replicate i c) ++ txt [c] = _
      rw [txt_app, List.replicate_succ']
    have hz : (txt (List.replicate i c)).size = i := by rw [txt_size, List.length_replicate]
    have h1 : (⟨#[c]⟩ : ByteArray).size = 1 := rfl
    simp only [spec_l4Many.l0]
    rw [if_pos (by omega), if_pos (by omega), e1, e2]
    exact ih k (i + 1) (by omega) (by omega) (by omega)
theorem many_eq (c : UInt8) (n : Int) (h0 : 0 ≤ n) (h1 : n ≤ 1048576) (k : Nat) (hk : n.toNat < k) : spec_l4Many.f k ⟨#[c]⟩ n = some (txt (List.replicate n.toNat c)) := by
  unfold spec_l4Many.f
  have := many_l0 c n.toNat (by omega) n.toNat k 0 (by omega) (by omega) hk
  rw [Int.toNat_of_nonneg h0] at this
  exact this
theorem repeat_eq (c : UInt8) (n : Int) (h0 : 0 ≤ n) (h1 : n ≤ 1048576) : strings_Repeat.f ⟨#[c]⟩ n = some (txt (List.replicate n.toNat c)) := by
  unfold strings_Repeat.f
  have hz : (⟨#[c]⟩ : ByteArray).size = 1 := rfl
  rw [if_pos h0, if_pos (by omega), if_pos (by rw [hz]; omega)]
  show some (txt (Lib.repeatL [c] n.toNat)) = _
  rw [repeat_one]
/-! the line of runs -/
def rbyte (f : Int) : UInt8 := UInt8.ofNat (f + 48).toNat
def expd (x : List S30) : List UInt8 := x.flatMap fun p => List.replicate p.f1.toNat (rbyte p.f0)
theorem expd_nil : expd [] = [] := rfl
theorem expd_snoc (x : List S30) (p : S30) : expd (x ++ [p]) = expd x ++ List.replicate p.f1.toNat (rbyte p.f0) := by simp [expd]
theorem rdP_get (X : List S30) (i : Nat) (h : i < X.length) : rd_T30 X (i : Int) = X[i] := by simp [rd_T30, h]
/-! the line of runs, as both sides write it -/
theorem rbyte_num {f : Int} (h : f = 0 ∨ f = 1) : ((rbyte f).toNat : Int) = f + 48 := by
  rcases h with rfl | rfl <;> decide
theorem one_text (c : UInt8) : strOfNums [((c.toNat : Nat) : Int)] = (⟨#[c]⟩ : ByteArray) := strOf_nums [c]
def okRun (p : S30) : Prop := (p.f0 = 0 ∨ p.f0 = 1) ∧ 0 ≤ p.f1 ∧ p.f1 ≤ 1048576
theorem expd_app (x y : List S30) : expd (x ++ y) = expd x ++ expd y := by simp [expd]
theorem expd_take (X : List S30) (i : Nat) (h : i < X.length) : expd (X.take (i + 1)) = expd (X.take i) ++ List.replicate X[i].f1.toNat (rbyte X[i].f0) := by
  rw [List.take_succ_eq_append_getElem h, expd_snoc]
theorem expd_take_len (X : List S30) (i : Nat) : (expd (X.take i)).length ≤ (expd X).length := by
  have : expd X = expd (X.take i) ++ expd (X.drop i) := by rw [← expd_app, List.take_append_drop]
  rw [this, List.length_append]; omega
theorem ofRuns_l0 (X : List S30) (hX : X.length ≤ 1048576) (hok : ∀ p ∈ X, okRun p) (hz : (expd X).length ≤ 1048576) (d : Nat) : ∀ (k i : Nat), i ≤ X.length → X.length - i = d → d < k →
    impl_ofRuns.l0 k (txt (expd (X.take i))) X (X.length : Int) (i : Int) = some (txt (expd X)) := by
  induction d with
  | zero =>
    intro k i hi hd hk
    obtain ⟨k, rfl⟩ := pred_of_lt hk
    simp only [impl_ofRuns.l0]
    rw [if_neg (by omega), List.take_of_length_le (by omega)]
  | succ d ih =>
    intro k i hi hd hk
    obtain ⟨k, rfl⟩ := pred_of_lt hk
    have hlt : i < X.length := by omega
    obtain ⟨h1, h2, h3⟩ := hok _ (List.getElem_mem hlt)
    have n := ih k (i + 1) (by omega) (by omega) (by omega)
    have e1 : wrap64 ((i : Int) + 1) = ((i + 1 : Nat) : Int) := by rw [wr (by omega) (by omega)]; omega
    have hb := rbyte_num h1
    have e2 : (wrap64 (48 + X[i].f0)) % 256 = ((rbyte X[i].f0).toNat : Int) := by
      clear e1; rw [wr (by omega) (by omega)]; omega
    have l1 := expd_take_len X i
    have l2 := expd_take_len X (i + 1)
    rw [expd_take X i hlt] at n l2
    rw [← txt_app] at n
    rw [List.length_append] at l2
    simp only [impl_ofRuns.l0, rdP_get X i hlt, e1, e2, one_text]
    rw [if_pos (by omega), if_pos (by omega), if_pos (by omega), repeat_eq _ _ h2 h3]
    simp only [Option.bind_some]
    rw [if_pos (by rw [txt_size, txt_size]; omega)]
    exact n
theorem ofRuns_eq (X : List S30) (hX : X.length ≤ 1048576) (hok : ∀ p ∈ X, okRun p) (hz : (expd X).length ≤ 1048576) (k : Nat) (hk : X.length < k) : impl_ofRuns.f k X = some (txt (expd X)) :=
  ofRuns_l0 X hX hok hz X.length k 0 (by omega) (by omega) hk
theorem sign_text {f : Int} (h : f = 0 ∨ f = 1) : (⟨#[48, 49]⟩ : ByteArray).extract (f : Int).toNat ((wrap64 (f + 1)) : Int).toNat = (⟨#[rbyte f]⟩ : ByteArray) := by
  have e0 : wrap64 (0 + 1) = 1 := by rw [wr (by omega) (by omega)]; rfl
  have e1 : wrap64 (1 + 1) = 2 := by rw [wr (by omega) (by omega)]; rfl
  rcases h with rfl | rfl
  · rw [e0]; apply ByteArray.ext; apply Array.toList_inj.1; rw [ByteArray.data_extract, Array.toList_extract, List.extract_eq_take_drop]; rfl
  · rw [e1]; apply ByteArray.ext; apply Array.toList_inj.1; rw [ByteArray.data_extract, Array.toList_extract, List.extract_eq_take_drop]; rfl
/-! lists of pairs: compared, marked, and found again -/
theorem eqA2_self (a b : Int) (k : Nat) (hk : 3 ≤ k) : laws_eqIntA2.f k a b a b = some true := by
  obtain ⟨k, rfl⟩ : ∃ m, k = m + 1 + 1 + 1 := ⟨k - 3, by omega⟩
  unfold laws_eqIntA2.f
  simp only [laws_eqIntA2.l0]
  simp
theorem rdA_get (X : List S30) (i : Nat) (h : i < X.length) : rd_T30 X (i : Int) = X[i] := by simp [rd_T30, h]
theorem eqA2S_l0 (a : List S30) (ha : a.length ≤ 1048576) (d : Nat) : ∀ (k i : Nat), i ≤ a.length → a.length - i = d → d + 3 < k → laws_eqIntA2S.l0 k a a (i : Int) = some true := by
  induction d with
  | zero =>
    intro k i hi hd hk
    obtain ⟨k, rfl⟩ : ∃ m, k = m + 1 := ⟨k - 1, by omega⟩
    simp only [laws_eqIntA2S.l0]; rw [if_neg (by omega)]
  | succ d ih =>
    intro k i hi hd hk
    obtain ⟨k, rfl⟩ : ∃ m, k = m + 1 := ⟨k - 1, by omega⟩
    simp only [laws_eqIntA2S.l0]; rw [if_pos (by omega), if_pos (by omega), if_pos (by omega), eqA2_self _ _ k (by omega)]
    simp only [Option.bind_some, if_true]
    rw [wr (by omega) (by omega)]
    have e : ((i : Int) + 1) = ((i + 1 : Nat) : Int) := by omega
    rw [e]
    exact ih k (i + 1) (by omega) (by omega) (by omega)
theorem eqA2S_self (a : List S30) (ha : a.length ≤ 1048576) (k : Nat) (hk : a.length + 3 < k) : laws_eqIntA2S.f k a a = some true := by
  unfold laws_eqIntA2S.f
  rw [if_pos rfl]
  exact eqA2S_l0 a ha a.length k 0 (by omega) (by omega) hk
/-! the copies that the law makes of a list of pairs -/
theorem toA2_eq (a b : Int) (k : Nat) (hk : 3 ≤ k) : laws_toIntA2.f k a b = some (a, b) := by
  obtain ⟨k, rfl⟩ : ∃ m, k = m + 1 + 1 + 1 := ⟨k - 3, by omega⟩
  unfold laws_toIntA2.f
  simp only [laws_toIntA2.l0]
  simp
theorem toA2S_l0 (x0 : List S30) (hx : x0.length ≤ 1048576) (d : Nat) : ∀ (k i : Nat) (x3 : List S30), i ≤ x0.length → x0.length - i = d → d + 3 < k → x3.length = x0.length → (∀ j, j < i → x3[j]? = x0[j]?) →
    laws_toIntA2S.l0 k x0 x3 (i : Int) = some x0 := by
  induction d with
  | zero =>
    intro k i x3 hi hd hk hl ht
    obtain ⟨k, rfl⟩ := pred_of_lt hk
    simp only [laws_toIntA2S.l0]; rw [if_neg (by omega)]
    refine congrArg some (List.ext_getElem? fun j => ?_)
    by_cases hj : j < i
    · exact ht j hj
    · rw [List.getElem?_eq_none (by omega), List.getElem?_eq_none (by omega)]
  | succ d ih =>
    intro k i x3 hi hd hk hl ht
    obtain ⟨k, rfl⟩ := pred_of_lt hk
    have hlt : i < x0.length := by omega
    simp only [laws_toIntA2S.l0]; rw [if_pos (by omega), if_pos (by omega), toA2_eq _ _ k (by omega)]
    simp only [Option.bind_some]
    rw [if_pos (by omega), wr (by omega) (by omega)]
    have e : ((i : Int) + 1) = ((i + 1 : Nat) : Int) := by omega
    have e2 : (⟨(rd_T30 x0 (i : Int)).f0, (rd_T30 x0 (i : Int)).f1⟩ : S30) = x0[i] := by rw [rdA_get x0 i hlt]
    rw [e, Int.toNat_natCast, e2]
    refine ih k (i + 1) _ (by omega) (by omega) (by omega) (by simpa using hl) fun j hj => ?_
    rw [List.getElem?_set]
    by_cases hji : i = j
    · subst hji
      simp [show i < x3.length by omega, show i < x0.length by omega]
    · rw [if_neg hji]; exact ht j (by omega)
theorem toA2S_eq (l : List S30) (h : l.length ≤ 1048576) (k : Nat) (hk : l.length + 3 < k) : laws_toIntA2S.f k l = some l := by
  unfold laws_toIntA2S.f
  rw [if_pos (by omega), if_pos (by omega)]
  exact toA2S_l0 l (by omega) l.length k 0 _ (by omega) (by omega) hk (by simp) (fun j hj => by omega)
theorem both_l (X : List S30) (hX : X.length ≤ 1048576) (d : Nat) : ∀ (k i : Nat), i ≤ X.length → X.length - i = d → 2 * d + 2000000 < k → (∀ p ∈ X.take i, okRun p) → (expd (X.take i)).length ≤ 200 →
    ∃ (r : ByteArray) (b : Bool), spec_LineOfRuns.l0 k X (txt (expd (X.take i))) (i : Int) = some (r, b) ∧ impl_LineOfRuns.l0 k X (((expd (X.take i)).length : Nat) : Int) X (X.length : Int) (i : Int) = some (r, b) := by
  induction d with
  | zero =>
    intro k i hi hd hk hok hz
    obtain ⟨k, rfl⟩ := pred_of_lt hk
    have hz2 := hz
    rw [List.take_of_length_le (by omega)] at hok hz2
    have o := ofRuns_eq X hX hok (by omega) k (by omega)
    refine ⟨txt (expd X), true, ?_, ?_⟩
    · simp only [spec_LineOfRuns.l0]
      rw [if_neg (by omega), List.take_of_length_le (by omega)]
    · simp only [impl_LineOfRuns.l0]
      rw [if_neg (by omega), o]; rfl
  | succ d ih =>
    intro k i hi hd hk hok hz
    obtain ⟨K, rfl⟩ : ∃ m, k = m + 1 := ⟨k - 1, by clear ih; omega⟩
    obtain ⟨K', hK'⟩ : ∃ m, K = m + 1 := ⟨K - 1, by clear ih; omega⟩
    have hlt : i < X.length := by clear ih; omega
    obtain ⟨p, hp⟩ : ∃ p, X[i] = p := ⟨_, rfl⟩
    have hget := rdP_get X i hlt
    rw [hp] at hget
    have c1 : (i : Int) < (X.length : Int) := by clear ih; omega
    have c2 : (0 : Int) ≤ (i : Int) := by clear ih; omega
    have e1 : wrap64 ((i : Int) + 1) = ((i + 1 : Nat) : Int) := by clear ih; rw [wr (by omega) (by omega)]; omega
    have ez : wrap64 (200 - (((expd (X.take i)).length : Nat) : Int)) = 200 - (((expd (X.take i)).length : Nat) : Int) := by clear ih e1; rw [wr (by omega) (by omega)]
    have hsz : ((txt (expd (X.take i))).size : Int) = (((expd (X.take i)).length : Nat) : Int) := by rw [txt_size]
    simp only [spec_LineOfRuns.l0, impl_LineOfRuns.l0, c1, c2, if_true, hget, l1In_eq, in_eq, Option.bind_some, hsz, ez, e1]
    by_cases hA : (decide (0 ≤ p.f0) && decide (p.f0 ≤ 1)) = true
    · rw [if_pos hA, if_pos hA]
      have h01 : p.f0 = 0 ∨ p.f0 = 1 := by
        simp only [Bool.and_eq_true, decide_eq_true_eq] at hA; clear ih e1 ez; omega
      -- what comes when the sign is another one
      have go : ∃ (r : ByteArray) (b : Bool), (if (decide (1 ≤ p.f1) && decide (p.f1 ≤ 200 - (((expd (X.take i)).length : Nat) : Int))) = true then (if 0 ≤ p.f0 then (if p.f0 ≤ (wrap64 (p.f0 + 1)) then (if (wrap64 (p.f0 + 1)) ≤ 2 then ((spec_l4Many.f K ((⟨#[48, 49]⟩ : ByteArray).extract (p.f0 : Int).toNat ((wrap64 (p.f0 + 1)) : Int).toNat) p.f1).bind fun t110 => (if (txt (expd (X.take i))).size + t110.size ≤ 9223372036854775807 then (spec_LineOfRuns.l0 K X (txt (expd (X.take i)) ++ t110) ((i + 1 : Nat) : Int)) else (none))) else (none)) else (none)) else (none)) else (some ((⟨#[]⟩ : ByteArray), false))) = some (r, b) ∧
          (if (decide (1 ≤ p.f1) && decide (p.f1 ≤ 200)) = true then impl_LineOfRuns.j1 K X (((expd (X.take i)).length : Nat) : Int) X (X.length : Int) (i : Int) false p.f0 p.f1 else impl_LineOfRuns.j1 K X (((expd (X.take i)).length : Nat) : Int) X (X.length : Int) (i : Int) true p.f0 p.f1) = some (r, b) := by
        have off : impl_LineOfRuns.j1 K X (((expd (X.take i)).length : Nat) : Int) X (X.length : Int) (i : Int) true p.f0 p.f1 = some ((⟨#[]⟩ : ByteArray), false) := by
          rw [hK']; simp only [impl_LineOfRuns.j1, if_true]
        by_cases hB : (decide (1 ≤ p.f1) && decide (p.f1 ≤ 200)) = true
        · rw [if_pos hB]
          have hB' := hB
          simp only [Bool.and_eq_true, decide_eq_true_eq] at hB'
          have et : wrap64 ((((expd (X.take i)).length : Nat) : Int) + p.f1) = (((expd (X.take i)).length : Nat) : Int) + p.f1 := by clear ih e1 ez off; rw [wr (by omega) (by omega)]
          by_cases hC : p.f1 ≤ 200 - (((expd (X.take i)).length : Nat) : Int)
          · have hD : (decide (1 ≤ p.f1) && decide (p.f1 ≤ 200 - (((expd (X.take i)).length : Nat) : Int))) = true := by simp only [Bool.and_eq_true, decide_eq_true_eq]; exact ⟨hB'.1, hC⟩
            have em := many_eq (rbyte p.f0) p.f1 (by clear ih e1 ez et off; omega) (by clear ih e1 ez et off; omega) K (by clear ih e1 ez et off; omega)
            have e3 : wrap64 (p.f0 + 1) = p.f0 + 1 := by clear ih e1 ez et off em; rw [wr (by omega) (by omega)]
            have hnew : expd (X.take (i + 1)) = expd (X.take i) ++ List.replicate p.f1.toNat (rbyte p.f0) := by rw [expd_take X i hlt, hp]
            have hlen : (expd (X.take (i + 1))).length = (expd (X.take i)).length + p.f1.toNat := by rw [hnew, List.length_append, List.length_replicate]
            obtain ⟨r, b, n1, n2⟩ := ih K (i + 1) (by clear ih e1 ez et off em e3; omega) (by clear ih e1 ez et off em e3; omega) (by clear ih e1 ez et off em e3; omega) (fun q hq => by
              rw [List.take_succ_eq_append_getElem hlt] at hq
              rcases List.mem_append.1 hq with h | h
              · exact hok q h
              · rw [List.mem_singleton.1 h, hp]
                exact ⟨h01, by clear ih e1 ez et off em e3; omega, by clear ih e1 ez et off em e3; omega⟩) (by rw [hlen]; clear ih e1 ez et off em e3; omega)
            refine ⟨r, b, ?_, ?_⟩
            · rw [if_pos hD, sign_text h01, e3, em]
              simp only [Option.bind_some]
              rw [if_pos (by clear ih e1 ez et off em e3; omega), if_pos (by clear ih e1 ez et off em e3; omega), if_pos (by clear ih e1 ez et off em e3; omega), if_pos (by rw [txt_size, txt_size, List.length_replicate]; clear ih e1 ez et off em e3; omega), txt_app, ← hnew]
              exact n1
            · have hnl : ((((expd (X.take i)).length : Nat) : Int) + p.f1 > 200) = False := eq_false (by clear ih e1 ez et off em e3 n1 n2; omega)
              rw [hK']; simp only [impl_LineOfRuns.j1, Bool.false_eq_true, if_false, et, hnl, e1]
              have hle : ((((expd (X.take (i + 1))).length : Nat)) : Int) = (((expd (X.take i)).length : Nat) : Int) + p.f1 := by rw [hlen]; clear ih e1 ez et off em e3 n1 n2; omega
              rw [← hle]
              obtain ⟨r', b', m1, m2⟩ := ih K' (i + 1) (by clear ih e1 ez et off em e3 n1 n2; omega) (by clear ih e1 ez et off em e3 n1 n2; omega) (by clear ih e1 ez et off em e3 n1 n2; omega) (fun q hq => by
                rw [List.take_succ_eq_append_getElem hlt] at hq
                rcases List.mem_append.1 hq with h | h
                · exact hok q h
                · rw [List.mem_singleton.1 h, hp]
                  exact ⟨h01, by clear ih e1 ez et off em e3 n1 n2; omega, by clear ih e1 ez et off em e3 n1 n2; omega⟩) (by rw [hlen]; clear ih e1 ez et off em e3 n1 n2; omega)
              have up := impl_LineOfRuns.mono_l K'
              have this := up.1 _ _ _ _ _ _ m2
              rw [← hK', n2] at this
              rw [m2, ← this]
          · have hD : (decide (1 ≤ p.f1) && decide (p.f1 ≤ 200 - (((expd (X.take i)).length : Nat) : Int))) = false := by
              rw [Bool.and_eq_false_iff]; right; simpa using hC
            refine ⟨(⟨#[]⟩ : ByteArray), false, ?_, ?_⟩
            · rw [hD]; rfl
            · have hnl : ((((expd (X.take i)).length : Nat) : Int) + p.f1 > 200) = True := eq_true (by clear ih e1 ez et off; omega)
              rw [hK']; simp only [impl_LineOfRuns.j1, Bool.false_eq_true, if_false, et, hnl, if_true]
        · rw [if_neg hB, off]
          have hD : (decide (1 ≤ p.f1) && decide (p.f1 ≤ 200 - (((expd (X.take i)).length : Nat) : Int))) = false := by
            rw [Bool.and_eq_false_iff]
            simp only [Bool.and_eq_true, decide_eq_true_eq] at hB
            by_cases h1 : 1 ≤ p.f1
            · right; simp only [decide_eq_false_iff_not]; clear ih e1 ez off; omega
            · left; simpa using h1
          exact ⟨(⟨#[]⟩ : ByteArray), false, by rw [hD]; rfl, rfl⟩
      by_cases h0 : (i : Int) > 0
      · obtain ⟨j, rfl⟩ : ∃ j, i = j + 1 := ⟨i - 1, by clear ih e1 ez go; omega⟩
        have e2 : wrap64 (((j + 1 : Nat) : Int) - 1) = ((j : Nat) : Int) := by clear ih e1 ez go; rw [wr (by omega) (by omega)]; omega
        have g1 : (0 : Int) ≤ (j : Int) := by clear ih e1 ez go e2; omega
        have g2 : (j : Int) < (X.length : Int) := by clear ih e1 ez go e2; omega
        obtain ⟨q, hq⟩ : ∃ q, rd_T30 X (j : Int) = q := ⟨_, rfl⟩
        simp only [h0, if_true, e2, g1, g2, hq]
        by_cases heq : p.f0 = q.f0
        · rw [if_pos heq]
          refine ⟨(⟨#[]⟩ : ByteArray), false, rfl, ?_⟩
          have hb : (q.f0 == p.f0) = true := by simp [heq]
          rw [hb]
          rw [hK']; simp only [impl_LineOfRuns.j1, if_true, ite_self]
        · rw [if_neg heq]
          have hb : (q.f0 == p.f0) = false := by simpa using fun h => heq h.symm
          rw [hb]
          exact go
      · simp only [h0, if_false]
        exact go
    · rw [if_neg hA, if_neg hA]
      refine ⟨(⟨#[]⟩ : ByteArray), false, rfl, ?_⟩
      rw [hK']; simp only [impl_LineOfRuns.j1, if_true]
theorem FnExactLineOfRuns : laws_FnExactLineOfRuns.Pure := by
  intro l hl _
  unfold maxLen at hl
  have e : wrap64 (1048576 - (l.length : Int)) = 1048576 - (l.length : Int) := by rw [wr (by omega) (by omega)]
  by_cases h : 1048576 - (l.length : Int) < 0
  · refine ⟨0, ?_⟩
    unfold laws_FnExactLineOfRuns.f laws_szIntA2S.f
    rw [e, if_pos h]; rfl
  · have hl2 : l.length ≤ 1048576 := by omega
    obtain ⟨M, hM⟩ : ∃ M : Nat, 8388608 ≤ M := ⟨8388608, Nat.le_refl _⟩
    obtain ⟨r, b, h1, h2⟩ := both_l l hl2 l.length (M + 1) 0 (by omega) (by omega) (by omega) (fun p hp => by simp at hp) (by simp [expd])
    refine ⟨M + 1, ?_⟩
    have t1 := toA2S_eq l hl2 (M + 1) (by omega)
    have t2 := toA2S_eq l hl2 M (by omega)
    have q := eqA2S_self l hl2 M (by omega)
    have s1 : spec_LineOfRuns.f (M + 1) l = some (r, b) := h1
    have s2 : impl_LineOfRuns.f (M + 1) l = some (r, b) := h2
    unfold laws_FnExactLineOfRuns.f laws_szIntA2S.f
    rw [e, if_neg h]
    simp only [Option.bind_some]
    rw [if_neg h]
    simp only [t1, s1, s2, Option.bind_some, bne_self_eq_false, if_true]
    simp only [laws_FnExactLineOfRuns.j0, Bool.false_eq_true, if_false, t2, q, Option.bind_some, if_true]

end Go.Proofs.Ytlfheofodhfbaaa.Pure
