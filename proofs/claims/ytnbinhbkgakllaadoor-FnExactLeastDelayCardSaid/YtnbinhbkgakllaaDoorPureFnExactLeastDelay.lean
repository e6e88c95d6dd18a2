/- LeastDelay of the program and of the reference answer alike at every two texts. -/
import Derived.Test.YtnbinhbkgakllaaDoorHFnExactLeastDelayx2
namespace Go.Proofs.YtnbinhbkgakllaaDoor.Pure
open Go.RowKit Go.Proofs.YtnbinhbkgakllaaDoor.HFnExactLeastDelay Go.Proofs.YtnbinhbkgakllaaDoorW.PrintWords Go.Proofs.YtnbinhbkgakllaaDoorW.PrintLast
set_option linter.unusedVariables false
set_option linter.unusedSimpArgs false
set_option linter.unnecessarySimpa false

theorem wr {i : Int} (h0 : -9223372036854775808 ≤ i) (h1 : i ≤ 9223372036854775807) : wrap64 i = i := by unfold wrap64; omega
theorem rd_nat (xs : List Int) (i : Nat) : rd xs (i : Int) = xs.getD i 0 := by simp [rd]
theorem rd_get (xs : List Int) (i : Nat) (h : i < xs.length) : rd xs (i : Int) = xs[i] := by simp [rd, h]
theorem pred_of_lt {d k : Nat} (h : d < k) : ∃ m, k = m + 1 := ⟨k - 1, by omega⟩
/-! bytes of a text -/
theorem size_data (s : ByteArray) : s.data.toList.length = s.size := Array.length_toList
theorem bt_nat (s : ByteArray) (i : Nat) (h : i < s.size) : bt s (i : Int) = ((s.data.toList[i]'(by rw [size_data]; exact h)).toNat : Int) := by
  have := bt_at s (i : Int) (by simpa using h)
  rw [← this]
  rfl
theorem byte_num (b c : UInt8) (n : Nat) (hc : c.toNat = n) : ((b.toNat : Int) = (n : Int)) ↔ b = c := by
  constructor
  · intro h
    exact UInt8.toNat_inj.1 (by omega)
  · rintro rfl; omega
/-! what is left when bytes of a set are taken off both ends -/
theorem dropWhile_nil {p : UInt8 → Bool} (l : List UInt8) : l.dropWhile p = [] ↔ l.all p = true := by
  induction l with
  | nil => simp
  | cons a l ih =>
    rw [List.dropWhile_cons]
    by_cases h : p a = true
    · rw [if_pos h, ih]; simp [h]
    · rw [if_neg h]; simp [h]
theorem trimS_nil (l cs : List UInt8) : Lib.trimS l cs = [] ↔ l.all (cs.contains ·) = true := by
  unfold Lib.trimS Lib.trimLeftS Lib.trimRightS
  rw [dropWhile_nil]
  constructor
  · intro h
    by_cases hr : (l.reverse.dropWhile (cs.contains ·)) = []
    · rw [dropWhile_nil, List.all_reverse] at hr; exact hr
    · exfalso
      rw [List.all_reverse] at h
      cases hd : l.reverse.dropWhile (cs.contains ·) with
      | nil => exact hr hd
      | cons a t =>
        have ha : cs.contains a = false := by
          have := List.head?_dropWhile_not (cs.contains ·) l.reverse
          rw [hd] at this
          simpa using this
        rw [hd] at h
        simp at h
        rw [List.contains_eq_mem] at ha
        simp [h.1] at ha
  · intro h
    have : (l.reverse.dropWhile (cs.contains ·)) = [] := by
      rw [dropWhile_nil, List.all_reverse]; exact h
    rw [this]; rfl
theorem toList_nil (l : List UInt8) : ((⟨l.toArray⟩ : ByteArray).toList == ([] : List UInt8)) = l.isEmpty := by
  have : (⟨l.toArray⟩ : ByteArray).toList = l := by
    rw [ByteArray.toList_eq]
  rw [this]
  cases l <;> rfl
theorem l1In_eq (a b c : Int) : spec_l1In.f a b c = some (decide (b ≤ a) && decide (a ≤ c)) := by
  unfold spec_l1In.f
  by_cases h : a ≥ b
  · rw [if_pos h]; simp [show b ≤ a from h]
  · rw [if_neg h]; simp [show ¬ b ≤ a from h]
/-! a line, as both sides ask for it -/
def onOff (b : UInt8) : Bool := b == 48 || b == 49
def isLn (s : ByteArray) : Bool := decide (s.size ≤ 200) && s.data.toList.all onOff
theorem bt_is (s : ByteArray) (i : Nat) (h : i < s.size) (c : UInt8) (n : Int) (hc : (c.toNat : Int) = n) : (bt s (i : Int) = n) ↔ (s.data.toList[i]'(by rw [size_data]; exact h)) = c := by
  rw [bt_nat s i h, ← hc]
  constructor
  · intro e; exact UInt8.toNat_inj.1 (by omega)
  · intro e; rw [e]
theorem l4Line_l0 (s : ByteArray) (hs : s.size ≤ 1048576) (d : Nat) : ∀ (k i : Nat), i ≤ s.size → s.size - i = d → 2 * d + 1 < k → (s.data.toList.take i).all onOff = true → spec_l4Line.l0 k s (i : Int) = some (isLn s) := by
  have hsz := size_data s
  induction d with
  | zero =>
    intro k i hi hd hk ht
    obtain ⟨k, rfl⟩ := pred_of_lt hk
    obtain ⟨k, rfl⟩ : ∃ m, k = m + 1 := ⟨k - 1, by omega⟩
    simp only [spec_l4Line.l0]; rw [if_neg (by omega)]
    simp only [spec_l4Line.j1]; rw [if_neg (by simp)]
    rw [List.take_of_length_le (by omega)] at ht
    have : decide ((s.size : Int) ≤ 200) = decide (s.size ≤ 200) := by rw [decide_eq_decide]; omega
    rw [this]; simp [isLn, ht]
  | succ d ih =>
    intro k i hi hd hk ht
    obtain ⟨k, rfl⟩ := pred_of_lt hk
    obtain ⟨k, rfl⟩ : ∃ m, k = m + 1 := ⟨k - 1, by omega⟩
    have c1 : (i : Int) < (s.size : Int) := by omega
    have c2 : (0 : Int) ≤ (i : Int) := by omega
    have e : wrap64 ((i : Int) + 1) = ((i + 1 : Nat) : Int) := by rw [wr (by omega) (by omega)]; omega
    simp only [spec_l4Line.l0, c1, if_true, spec_l4Line.j1]
    by_cases h200 : (i : Int) ≤ 200
    · have hd2 : decide ((i : Int) ≤ 200) = true := by simpa using h200
      simp only [hd2, c2, if_true, e]
      have hlt : i < s.data.toList.length := by omega
      have next : onOff (s.data.toList[i]) = true → spec_l4Line.l0 k s ((i + 1 : Nat) : Int) = some (isLn s) := fun hb => ih k (i + 1) (by omega) (by omega) (by omega) (by
        rw [List.take_succ_eq_append_getElem hlt, List.all_append, ht]; simp only [List.all_cons, List.all_nil, hb, Bool.and_true])
      by_cases h0 : bt s (i : Int) = 48
      · rw [if_pos h0]
        exact next (by rw [bt_is s i (by omega) 48 48 (by decide)] at h0; rw [h0]; decide)
      · rw [if_neg h0]
        by_cases h1 : bt s (i : Int) = 49
        · rw [if_pos h1]
          exact next (by rw [bt_is s i (by omega) 49 49 (by decide)] at h1; rw [h1]; decide)
        · rw [if_neg h1]
          rw [bt_is s i (by omega) 48 48 (by decide)] at h0
          rw [bt_is s i (by omega) 49 49 (by decide)] at h1
          have hm : s.data.toList[i] ∈ s.data.toList := List.getElem_mem _
          have hf : s.data.toList.all onOff = false := by
            rw [List.all_eq_false]; exact ⟨_, hm, by simp only [onOff, Bool.or_eq_true, beq_iff_eq, h0, h1, or_self, not_false_eq_true]⟩
          simp [isLn, hf]
    · have hd2 : decide ((i : Int) ≤ 200) = false := by simpa using h200
      simp only [hd2, Bool.false_eq_true, if_false]
      have : decide ((s.size : Int) ≤ 200) = false := by simp; omega
      rw [this]
      simp [isLn, show ¬ s.size ≤ 200 by omega]
theorem l4Line_eq (s : ByteArray) (hs : s.size ≤ 1048576) (k : Nat) (hk : 2 * s.size + 1 < k) : spec_l4Line.f k s = some (isLn s) := by
  unfold spec_l4Line.f
  exact l4Line_l0 s hs s.size k 0 (by omega) (by omega) hk (by simp)
theorem implLine_eq (s : ByteArray) : impl_IsLine.f s = some (isLn s) := by
  unfold impl_IsLine.f
  by_cases h : (s.size : Int) ≤ 200
  · rw [if_pos h]
    unfold strings_Trim.f
    rw [if_pos (by omega), if_pos (by decide), if_pos (by decide)]
    simp only [Option.bind_some]
    rw [toList_nil]
    have e : (Lib.trimS s.data.toList [48, 49]).isEmpty = s.data.toList.all onOff := by
      rw [Bool.eq_iff_iff, List.isEmpty_iff, trimS_nil]
      have : (fun x => [48, 49].contains x) = onOff := by
        funext x
        simp [onOff, List.contains_eq_mem]
        rfl
      rw [this]
    show some (Lib.trimS s.data.toList [48, 49]).isEmpty = _
    rw [e]
    simp [isLn, show s.size ≤ 200 by omega]
  · rw [if_neg h]; simp [isLn, show ¬ s.size ≤ 200 by omega]
/-! is a unit on: as both sides ask it -/
def onB (s : ByteArray) (i : Int) : Bool := (decide (0 ≤ i) && decide (i ≤ (s.size : Int) - 1)) && (bt s i == 49)
theorem in_eq (a b c : Int) : impl_in.f a b c = some (decide (b ≤ a) && decide (a ≤ c)) := by
  unfold impl_in.f
  by_cases h : a ≥ b
  · rw [if_pos h]; simp [show b ≤ a from h]
  · rw [if_neg h]; simp [show ¬ b ≤ a from h]
theorem l4On_eq (s : ByteArray) (hs : s.size ≤ 1048576) (i : Int) : spec_l4On.f s i = some (onB s i) := by
  unfold spec_l4On.f
  rw [l1In_eq, wr (by omega) (by omega)]
  simp only [Option.bind_some]
  by_cases h : (decide (0 ≤ i) && decide (i ≤ (s.size : Int) - 1)) = true
  · rw [if_pos h]
    simp only [Bool.and_eq_true, decide_eq_true_eq] at h
    rw [if_pos h.1, if_pos (by omega)]
    simp [onB, h.1, h.2]
  · rw [if_neg h]
    have h' := (Bool.not_eq_true _).mp h
    simp only [onB, h', Bool.false_and]
theorem isOn_eq (s : ByteArray) (hs : s.size ≤ 1048576) (i : Int) : impl_isOn.f s i = some (onB s i) := by
  unfold impl_isOn.f
  rw [in_eq, wr (by omega) (by omega)]
  simp only [Option.bind_some]
  by_cases h : (decide (0 ≤ i) && decide (i ≤ (s.size : Int) - 1)) = true
  · rw [if_pos h]
    simp only [Bool.and_eq_true, decide_eq_true_eq] at h
    rw [if_pos h.1, if_pos (by omega)]
    simp [onB, h.1, h.2]
  · rw [if_neg h]
    have h' := (Bool.not_eq_true _).mp h
    simp only [onB, h', Bool.false_and]
theorem onB_neg (s : ByteArray) (i : Int) (h : i < 0) : onB s i = false := by simp [onB, show ¬ 0 ≤ i by omega]
theorem onB_far (s : ByteArray) (i : Int) (h : (s.size : Int) ≤ i) : onB s i = false := by simp [onB, show ¬ i ≤ (s.size : Int) - 1 by omega]
/-! how many numbers below another one have a property -/
def cN (f : Nat → Bool) : Nat → Nat
  | 0 => 0
  | m + 1 => cN f m + (f m).toNat
theorem cN_le (f : Nat → Bool) (m : Nat) : cN f m ≤ m := by
  induction m with
  | zero => simp [cN]
  | succ m ih => simp only [cN]; have := Bool.toNat_le (f m); omega
theorem cN_more (f : Nat → Bool) (m d : Nat) (h : ∀ j, m ≤ j → f j = false) : cN f (m + d) = cN f m := by
  induction d with
  | zero => rfl
  | succ d ih => rw [← Nat.add_assoc]; simp only [cN]; rw [ih, h (m + d) (by omega)]; rfl
theorem cN_shift (f : Nat → Bool) (n m : Nat) : cN f (n + m) = cN f n + cN (fun j => f (n + j)) m := by
  induction m with
  | zero => simp [cN]
  | succ m ih => rw [← Nat.add_assoc]; simp only [cN]; rw [ih]; omega
theorem cN_none (f : Nat → Bool) (m : Nat) (h : ∀ j, j < m → f j = false) : cN f m = 0 := by
  induction m with
  | zero => rfl
  | succ m ih => simp only [cN]; rw [ih (fun j hj => h j (by omega)), h m (by omega)]; rfl
theorem cN_congr (f g : Nat → Bool) (m : Nat) (h : ∀ j, j < m → f j = g j) : cN f m = cN g m := by
  induction m with
  | zero => rfl
  | succ m ih => simp only [cN]; rw [ih (fun j hj => h j (by omega)), h m (by omega)]
/-- the units that are on in both, asked along the second line -/
def fS (a b : ByteArray) (n : Nat) (i : Nat) : Bool := onB b (i : Int) && onB a ((i + n : Nat) : Int)
/-- the same, asked along the first one -/
def fI (a b : ByteArray) (n : Nat) (i : Nat) : Bool := onB a (i : Int) && onB b ((i : Int) - (n : Int))
theorem clash_same (a b : ByteArray) (n : Nat) : cN (fI a b n) a.size = cN (fS a b n) b.size := by
  have h1 : cN (fI a b n) (a.size + (n + b.size)) = cN (fI a b n) a.size := cN_more _ _ _ (fun j hj => by simp [fI, onB_far a (j : Int) (by omega)])
  have h2 : cN (fI a b n) (a.size + (n + b.size)) = cN (fI a b n) (n + (a.size + b.size)) := by congr 1; omega
  have h3 := cN_shift (fI a b n) n (a.size + b.size)
  have h4 : cN (fI a b n) n = 0 := cN_none _ _ (fun j hj => by simp [fI, onB_neg b ((j : Int) - (n : Int)) (by omega)])
  have h5 : cN (fun j => fI a b n (n + j)) (a.size + b.size) = cN (fS a b n) (a.size + b.size) := cN_congr _ _ _ (fun j hj => by
    have e1 : ((n + j : Nat) : Int) - (n : Int) = (j : Int) := by omega
    have e2 : n + j = j + n := by omega
    simp only [fI, fS, e1]
    rw [e2, Bool.and_comm])
  have h6 : cN (fS a b n) (b.size + a.size) = cN (fS a b n) b.size := cN_more _ _ _ (fun j hj => by simp [fS, onB_far b (j : Int) (by omega)])
  rw [← h1, h2, h3, h4, h5, Nat.add_comm a.size, h6, Nat.zero_add]
theorem l4Clash_l0 (a b : ByteArray) (ha : a.size ≤ 1048576) (hb : b.size ≤ 1048576) (n : Nat) (hn : n ≤ 1048576) (d : Nat) : ∀ (k i : Nat), i ≤ b.size → b.size - i = d → d < k →
    spec_l4Clash.l0 k a b (n : Int) (cN (fS a b n) i : Int) (i : Int) = some (cN (fS a b n) b.size : Int) := by
  induction d with
  | zero =>
    intro k i hi hd hk
    obtain ⟨k, rfl⟩ := pred_of_lt hk
    simp only [spec_l4Clash.l0]
    rw [if_neg (by omega), show i = b.size by omega]
  | succ d ih =>
    intro k i hi hd hk
    obtain ⟨k, rfl⟩ := pred_of_lt hk
    have c1 : (i : Int) < (b.size : Int) := by omega
    have hc := cN_le (fS a b n) i
    have e1 : wrap64 ((i : Int) + 1) = ((i + 1 : Nat) : Int) := by rw [wr (by omega) (by omega)]; omega
    have e2 : wrap64 ((i : Int) + (n : Int)) = ((i + n : Nat) : Int) := by rw [wr (by omega) (by omega)]; omega
    have e3 : wrap64 ((cN (fS a b n) i : Int) + 1) = ((cN (fS a b n) i + 1 : Nat) : Int) := by rw [wr (by omega) (by omega)]; omega
    have next := ih k (i + 1) (by omega) (by omega) (by omega)
    simp only [spec_l4Clash.l0, c1, if_true, l4On_eq b hb, l4On_eq a ha, Option.bind_some, e1, e2, e3]
    simp only [cN] at next
    by_cases h1 : onB b (i : Int) = true
    · rw [if_pos h1]
      by_cases h2 : onB a ((i + n : Nat) : Int) = true
      · rw [if_pos h2]
        have : fS a b n i = true := by simp only [fS, h1, h2, Bool.and_self]
        rw [this] at next; exact next
      · rw [if_neg h2]
        have : fS a b n i = false := by simp only [fS, (Bool.not_eq_true _).mp h2, Bool.and_false]
        rw [this] at next; exact next
    · rw [if_neg h1]
      have : fS a b n i = false := by simp only [fS, (Bool.not_eq_true _).mp h1, Bool.false_and]
      rw [this] at next; exact next
theorem clash_l0 (a b : ByteArray) (ha : a.size ≤ 1048576) (hb : b.size ≤ 1048576) (n : Nat) (hn : n ≤ 1048576) (d : Nat) : ∀ (k i : Nat), i ≤ a.size → a.size - i = d → d < k →
    impl_clash.l0 k a b (n : Int) (cN (fI a b n) i : Int) (a.size : Int) (i : Int) = some (cN (fI a b n) a.size : Int) := by
  induction d with
  | zero =>
    intro k i hi hd hk
    obtain ⟨k, rfl⟩ := pred_of_lt hk
    simp only [impl_clash.l0]
    rw [if_neg (by omega), show i = a.size by omega]
  | succ d ih =>
    intro k i hi hd hk
    obtain ⟨k, rfl⟩ := pred_of_lt hk
    have c1 : (i : Int) < (a.size : Int) := by omega
    have hc := cN_le (fI a b n) i
    have e1 : wrap64 ((i : Int) + 1) = ((i + 1 : Nat) : Int) := by rw [wr (by omega) (by omega)]; omega
    have e2 : wrap64 ((i : Int) - (n : Int)) = (i : Int) - (n : Int) := by rw [wr (by omega) (by omega)]
    have e3 : wrap64 ((cN (fI a b n) i : Int) + 1) = ((cN (fI a b n) i + 1 : Nat) : Int) := by rw [wr (by omega) (by omega)]; omega
    have next := ih k (i + 1) (by omega) (by omega) (by omega)
    simp only [impl_clash.l0, c1, if_true, isOn_eq b hb, isOn_eq a ha, Option.bind_some, e1, e2, e3]
    simp only [cN] at next
    by_cases h1 : onB a (i : Int) = true
    · rw [if_pos h1]
      by_cases h2 : onB b ((i : Int) - (n : Int)) = true
      · rw [if_pos h2]
        have : fI a b n i = true := by simp only [fI, h1, h2, Bool.and_self]
        rw [this] at next; exact next
      · rw [if_neg h2]
        have : fI a b n i = false := by simp only [fI, (Bool.not_eq_true _).mp h2, Bool.and_false]
        rw [this] at next; exact next
    · rw [if_neg h1]
      have : fI a b n i = false := by simp only [fI, (Bool.not_eq_true _).mp h1, Bool.false_and]
      rw [this] at next; exact next
theorem clashes (a b : ByteArray) (ha : a.size ≤ 1048576) (hb : b.size ≤ 1048576) (n : Nat) (hn : n ≤ 1048576) (k : Nat) (hk : a.size + b.size < k) :
    spec_l4Clash.f k a b (n : Int) = some (cN (fS a b n) b.size : Int) ∧ impl_clash.f k a b (n : Int) = some (cN (fS a b n) b.size : Int) := by
  unfold spec_l4Clash.f impl_clash.f
  have h1 := l4Clash_l0 a b ha hb n hn b.size k 0 (by omega) (by omega) (by omega)
  have h2 := clash_l0 a b ha hb n hn a.size k 0 (by omega) (by omega) (by omega)
  rw [clash_same] at h2
  exact ⟨h1, h2⟩
theorem delays (a b : ByteArray) (ha : a.size ≤ 1048576) (hb : b.size ≤ 1048576) (d : Nat) : ∀ n : Nat, n ≤ a.size → a.size - n = d →
    ∃ r : Int, ∀ k, d + a.size + b.size + 1 < k → spec_LeastDelay.l0 k a b (n : Int) = some (r, true) ∧ impl_LeastDelay.l0 k a b (n : Int) = some (r, true) := by
  induction d with
  | zero =>
    intro n hn hd
    refine ⟨(n : Int), fun k hk => ?_⟩
    obtain ⟨k, rfl⟩ := pred_of_lt hk
    have hc := clashes a b ha hb n (by omega) k (by omega)
    have h0 : cN (fS a b n) b.size = 0 := cN_none _ _ (fun j hj => by simp only [fS, onB_far a ((j + n : Nat) : Int) (by omega), Bool.and_false])
    simp only [spec_LeastDelay.l0, impl_LeastDelay.l0]
    rw [hc.1, hc.2, h0]
    simp
  | succ d ih =>
    intro n hn hd
    by_cases h0 : cN (fS a b n) b.size = 0
    · refine ⟨(n : Int), fun k hk => ?_⟩
      obtain ⟨k, rfl⟩ := pred_of_lt hk
      have hc := clashes a b ha hb n (by omega) k (by omega)
      simp only [spec_LeastDelay.l0, impl_LeastDelay.l0]
      rw [hc.1, hc.2, h0]
      simp
    · obtain ⟨r, hr⟩ := ih (n + 1) (by omega) (by omega)
      refine ⟨r, fun k hk => ?_⟩
      obtain ⟨k, rfl⟩ := pred_of_lt hk
      have hc := clashes a b ha hb n (by omega) k (by omega)
      have hp : ((cN (fS a b n) b.size : Nat) : Int) > 0 := by omega
      have e1 : wrap64 ((n : Int) + 1) = ((n + 1 : Nat) : Int) := by rw [wr (by omega) (by omega)]; omega
      simp only [spec_LeastDelay.l0, impl_LeastDelay.l0]
      rw [hc.1, hc.2]
      simp only [Option.bind_some, hp, if_true, e1]
      exact hr k (by omega)
theorem FnExactLeastDelay : laws_FnExactLeastDelay.Pure := by
  intro a b _ _
  by_cases h : (a.size : Int) > 1048576
  · refine ⟨0, ?_⟩
    unfold laws_FnExactLeastDelay.f
    rw [if_pos h]
  · by_cases h2 : (b.size : Int) > 1048576
    · refine ⟨0, ?_⟩
      unfold laws_FnExactLeastDelay.f
      rw [if_neg h, if_pos h2]
    · obtain ⟨r, hr⟩ := delays a b (by omega) (by omega) a.size 0 (by omega) (by omega)
      refine ⟨2 * a.size + 2 * b.size + 2 + 1, ?_⟩
      have hk := hr (2 * a.size + 2 * b.size + 2) (by omega)
      unfold laws_FnExactLeastDelay.f spec_LeastDelay.f impl_LeastDelay.f
      rw [if_neg h, if_neg h2, l4Line_eq a (by omega) _ (by omega), l4Line_eq b (by omega) _ (by omega), implLine_eq, implLine_eq]
      simp only [Option.bind_some]
      by_cases ha : isLn a = true
      · by_cases hb : isLn b = true
        · simp only [ha, hb, if_true, Bool.not_true, spec_LeastDelay.j0, impl_LeastDelay.j0, Bool.false_eq_true, if_false]
          have e1 := hk.1
          have e2 := hk.2
          simp only [Int.natCast_zero] at e1 e2
          rw [e1, e2]
          simp
        · simp [ha, hb, spec_LeastDelay.j0, impl_LeastDelay.j0]
      · simp [ha, spec_LeastDelay.j0, impl_LeastDelay.j0]

end Go.Proofs.YtnbinhbkgakllaaDoor.Pure
