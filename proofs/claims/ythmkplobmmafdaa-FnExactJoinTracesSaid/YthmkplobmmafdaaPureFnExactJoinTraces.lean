/- JoinTraces of the program and of the reference answer alike at every two lists and a number. -/
import Derived.Test.YthmkplobmmafdaaHFnExactJoinTracesx3
namespace Go.Proofs.Ythmkplobmmafdaa.Pure
open Go.RowKit Go.Proofs.Ythmkplobmmafdaa.HFnExactJoinTraces Go.Proofs.YthmkplobmmafdaaW.PrintWords Go.Proofs.YthmkplobmmafdaaW.PrintLast
set_option linter.unusedVariables false
set_option linter.unusedSimpArgs false
set_option linter.unnecessarySimpa false

theorem wr {i : Int} (h0 : -9223372036854775808 ≤ i) (h1 : i ≤ 9223372036854775807) : wrap64 i = i := by unfold wrap64; omega
theorem rd_nat (xs : List Int) (i : Nat) : rd xs (i : Int) = xs.getD i 0 := by simp [rd]
theorem rd_get (xs : List Int) (i : Nat) (h : i < xs.length) : rd xs (i : Int) = xs[i] := by simp [rd, h]
theorem pred_of_lt {d k : Nat} (h : d < k) : ∃ m, k = m + 1 := ⟨k - 1, by omega⟩
/-! the copies and the marks that the laws make of lists of whole numbers -/
theorem toIntS_l0 (x0 : List Int) (hx : x0.length ≤ 35184372088832) (d : Nat) : ∀ (k i : Nat) (x3 : List Int), i ≤ x0.length → x0.length - i = d → d < k → x3.length = x0.length → (∀ j, j < i → x3[j]? = x0[j]?) →
    laws_toIntS.l0 k x0 x3 (i : Int) = some x0 := by
  induction d with
  | zero =>
    intro k i x3 hi hd hk hl ht
    obtain ⟨k, rfl⟩ := pred_of_lt hk
    simp only [laws_toIntS.l0]; rw [if_neg (by omega)]
    refine congrArg some (List.ext_getElem? fun j => ?_)
    by_cases hj : j < i
    · exact ht j hj
    · rw [List.getElem?_eq_none (by omega), List.getElem?_eq_none (by omega)]
  | succ d ih =>
    intro k i x3 hi hd hk hl ht
    obtain ⟨k, rfl⟩ := pred_of_lt hk
    simp only [laws_toIntS.l0]; rw [if_pos (by omega), if_pos (by omega), if_pos (by omega), wr (by omega) (by omega)]
    have e : ((i : Int) + 1) = ((i + 1 : Nat) : Int) := by omega
    rw [e, Int.toNat_natCast, rd_get x0 i (by omega)]
    refine ih k (i + 1) _ (by omega) (by omega) (by omega) (by simpa using hl) fun j hj => ?_
    rw [List.getElem?_set]
    by_cases hji : i = j
    · subst hji
      simp [show i < x3.length by omega, show i < x0.length by omega]
    · rw [if_neg hji]; exact ht j (by omega)
theorem toIntS_eq (l : List Int) (h : l.length ≤ 1048576) (k : Nat) (hk : l.length < k) : laws_toIntS.f k l = some l := by
  unfold laws_toIntS.f
  rw [if_pos (by omega), if_pos (by omega)]
  exact toIntS_l0 l (by omega) l.length k 0 _ (by omega) (by omega) hk (by simp) (fun j hj => by omega)
theorem eqIntS_l0 (a b : List Int) (hab : a.length = b.length) (ha : a.length ≤ 1048576) (d : Nat) : ∀ (k i : Nat), i ≤ a.length → a.length - i = d → d < k → (∀ j, j < i → a[j]? = b[j]?) →
    laws_eqIntS.l0 k a b (i : Int) = some (decide (a = b)) := by
  induction d with
  | zero =>
    intro k i hi hd hk ht
    obtain ⟨k, rfl⟩ := pred_of_lt hk
    simp only [laws_eqIntS.l0]; rw [if_neg (by omega)]
    have : a = b := List.ext_getElem? fun j => by
      by_cases hj : j < i
      · exact ht j hj
      · rw [List.getElem?_eq_none (by omega), List.getElem?_eq_none (by omega)]
    simp [this]
  | succ d ih =>
    intro k i hi hd hk ht
    obtain ⟨k, rfl⟩ := pred_of_lt hk
    simp only [laws_eqIntS.l0]; rw [if_pos (by omega), if_pos (by omega), if_pos (by omega), rd_get a i (by omega), rd_get b i (by omega)]
    by_cases hc : a[i]'(by omega) = b[i]'(by omega)
    · rw [if_pos hc, wr (by omega) (by omega)]
      have e : ((i : Int) + 1) = ((i + 1 : Nat) : Int) := by omega
      rw [e]
      refine ih k (i + 1) (by omega) (by omega) (by omega) fun j hj => ?_
      by_cases hji : j = i
      · subst hji
        rw [List.getElem?_eq_getElem (by omega), List.getElem?_eq_getElem (by omega), hc]
      · exact ht j (by omega)
    · rw [if_neg hc]
      have : ¬ a = b := fun e => hc (by subst e; rfl)
      simp [this]
theorem eqIntS_eq (a b : List Int) (ha : a.length ≤ 1048576) (k : Nat) (hk : a.length < k) : laws_eqIntS.f k a b = some (decide (a = b)) := by
  unfold laws_eqIntS.f
  by_cases h : (a.length : Int) = (b.length : Int)
  · rw [if_pos h]
    exact eqIntS_l0 a b (by omega) ha a.length k 0 (by omega) (by omega) hk (fun j hj => by omega)
  · rw [if_neg h]
    have : ¬ a = b := fun e => h (by rw [e])
    simp [this]
theorem eqIntS_self (a : List Int) (ha : a.length ≤ 1048576) (k : Nat) (hk : a.length < k) : laws_eqIntS.f k a a = some true := by
  rw [eqIntS_eq a a ha k hk]; simp
def seqI (a : Int) (n : Nat) : List Int := (List.range n).map fun (j : Nat) => a + (j : Int)
theorem seqI_len (a : Int) (n : Nat) : (seqI a n).length = n := by simp [seqI]
theorem seqI_get (a : Int) (n j : Nat) (h : j < n) : (seqI a n)[j]? = some (a + (j : Int)) := by simp [seqI, h]
theorem markIntS_l0 (a : Int) (h0 : 0 ≤ a) (h1 : a ≤ 2097152) (n : Nat) (hn : n ≤ 1048576) (d : Nat) : ∀ (k i : Nat) (x0 : List Int), x0.length = n → i ≤ n → n - i = d → d < k → (∀ j, j < i → x0[j]? = some (a + (j : Int))) →
    laws_markIntS.l0 k x0 (a + (i : Int)) (i : Int) = some (a + (n : Int), seqI a n) := by
  induction d with
  | zero =>
    intro k i x0 hl hi hd hk ht
    obtain ⟨k, rfl⟩ := pred_of_lt hk
    simp only [laws_markIntS.l0]; rw [if_neg (by omega)]
    have hin : i = n := by omega
    have : x0 = seqI a n := List.ext_getElem? fun j => by
      by_cases hj : j < i
      · rw [ht j hj, seqI_get a n j (by omega)]
      · rw [List.getElem?_eq_none (by omega), List.getElem?_eq_none (by rw [seqI_len]; omega)]
    rw [this, hin]
  | succ d ih =>
    intro k i x0 hl hi hd hk ht
    obtain ⟨k, rfl⟩ := pred_of_lt hk
    simp only [laws_markIntS.l0]; rw [if_pos (by omega), if_pos (by omega), wr (by omega) (by omega), wr (by omega) (by omega)]
    have e : ((i : Int) + 1) = ((i + 1 : Nat) : Int) := by omega
    have e2 : a + (i : Int) + 1 = a + ((i + 1 : Nat) : Int) := by omega
    rw [e2, e, Int.toNat_natCast]
    refine ih k (i + 1) _ (by simpa using hl) (by omega) (by omega) (by omega) fun j hj => ?_
    rw [List.getElem?_set]
    by_cases hji : i = j
    · subst hji
      simp [show i < x0.length by omega]
    · rw [if_neg hji]; exact ht j (by omega)
theorem markIntS_eq (l : List Int) (a : Int) (h0 : 0 ≤ a) (h1 : a ≤ 2097152) (h : l.length ≤ 1048576) (k : Nat) (hk : l.length < k) : laws_markIntS.f k l a = some (a + (l.length : Int), seqI a l.length) := by
  unfold laws_markIntS.f
  have := markIntS_l0 a h0 h1 l.length h l.length k 0 l rfl (by omega) (by omega) hk (fun j hj => by omega)
  simpa using this
theorem heldIntS_l0 (a : Int) (h0 : 0 ≤ a) (h1 : a ≤ 2097152) (n : Nat) (hn : n ≤ 1048576) (d : Nat) : ∀ (k i : Nat), i ≤ n → n - i = d → d < k → laws_heldIntS.l0 k (seqI a n) (a + (i : Int)) (i : Int) = some (a + (n : Int)) := by
  induction d with
  | zero =>
    intro k i hi hd hk
    obtain ⟨k, rfl⟩ := pred_of_lt hk
    simp only [laws_heldIntS.l0]; rw [seqI_len, if_neg (by omega), show i = n by omega]
  | succ d ih =>
    intro k i hi hd hk
    obtain ⟨k, rfl⟩ := pred_of_lt hk
    simp only [laws_heldIntS.l0]; rw [seqI_len, if_pos (by omega), if_pos (by omega), if_pos, wr (by omega) (by omega), wr (by omega) (by omega)]
    · have e : ((i : Int) + 1) = ((i + 1 : Nat) : Int) := by omega
      have e2 : a + (i : Int) + 1 = a + ((i + 1 : Nat) : Int) := by omega
      rw [e2, e]
      exact ih k (i + 1) (by omega) (by omega) (by omega)
    · have := seqI_get a n i (by omega)
      rw [rd_nat, List.getD_eq_getElem?_getD, this]; rfl
theorem heldIntS_eq (a : Int) (h0 : 0 ≤ a) (h1 : a ≤ 2097152) (n : Nat) (hn : n ≤ 1048576) (k : Nat) (hk : n < k) : laws_heldIntS.f k (seqI a n) a = some (a + (n : Int)) := by
  unfold laws_heldIntS.f
  have := heldIntS_l0 a h0 h1 n hn n k 0 (by omega) (by omega) hk
  simpa using this
/-! a trace, as both sides ask for it -/
def okLen (x : Int) : Bool := decide (1 ≤ x) && decide (x ≤ 999)
def isTr (l : List Int) : Bool := decide (l.length % 2 = 1) && (decide (l.length ≤ 143) && l.all okLen)
theorem l1In_eq (a b c : Int) : spec_l1In.f a b c = some (decide (b ≤ a) && decide (a ≤ c)) := by
  unfold spec_l1In.f
  by_cases h : a ≥ b
  · rw [if_pos h]; simp [show b ≤ a from h]
  · rw [if_neg h]; simp [show ¬ b ≤ a from h]
theorem in_eq (a b c : Int) : impl_in.f a b c = some (decide (b ≤ a) && decide (a ≤ c)) := by
  unfold impl_in.f
  by_cases h : a ≥ b
  · rw [if_pos h]; simp [show b ≤ a from h]
  · rw [if_neg h]; simp [show ¬ b ≤ a from h]
theorem l5Trace_l0 (l : List Int) (hl : l.length ≤ 1048576) (d : Nat) : ∀ (k i : Nat), i ≤ l.length → l.length - i = d → 2 * d + 1 < k → (l.take i).all okLen = true → spec_l5Trace.l0 k l (i : Int) = some (isTr l) := by
  induction d with
  | zero =>
    intro k i hi hd hk ht
    obtain ⟨k, rfl⟩ := pred_of_lt hk
    obtain ⟨k, rfl⟩ : ∃ m, k = m + 1 := ⟨k - 1, by omega⟩
    simp only [spec_l5Trace.l0]; rw [if_neg (by omega)]
    simp only [spec_l5Trace.j1]; rw [if_neg (by simp)]
    rw [List.take_of_length_le (by omega)] at ht
    unfold isTr
    by_cases h : (l.length : Int) % 2 = 1
    · rw [if_pos h]; simp only [ht]; simp [show l.length % 2 = 1 by omega]
      omega
    · rw [if_neg h]; simp [show ¬ l.length % 2 = 1 by omega]
  | succ d ih =>
    intro k i hi hd hk ht
    obtain ⟨k, rfl⟩ := pred_of_lt hk
    obtain ⟨k, rfl⟩ : ∃ m, k = m + 1 := ⟨k - 1, by omega⟩
    simp only [spec_l5Trace.l0]; rw [if_pos (by omega)]
    simp only [spec_l5Trace.j1]
    by_cases h143 : (i : Int) ≤ 143
    · rw [if_pos (by simpa using h143), if_pos (by omega), if_pos (by omega), l1In_eq]
      simp only [Option.bind_some]
      rw [rd_get l i (by omega)]
      by_cases hc : okLen (l[i]'(by omega)) = true
      · rw [if_pos (by simpa [okLen] using hc), wr (by omega) (by omega)]
        have e : ((i : Int) + 1) = ((i + 1 : Nat) : Int) := by omega
        rw [e]
        refine ih k (i + 1) (by omega) (by omega) (by omega) ?_
        rw [List.take_succ_eq_append_getElem (by omega), List.all_append, ht]
        simp [hc]
      · rw [if_neg (by simpa [okLen] using hc)]
        have hm : l[i]'(by omega) ∈ l := List.getElem_mem _
        have : l.all okLen = false := by
          rw [List.all_eq_false]; exact ⟨_, hm, by simpa using hc⟩
        simp [isTr, this]
    · rw [if_neg (by simpa using h143)]
      have : ¬ l.length ≤ 143 := by omega
      by_cases h : (l.length : Int) % 2 = 1
      · rw [if_pos h]; simp [isTr, this]
        omega
      · rw [if_neg h]; simp [isTr, this]
theorem l5Trace_eq (l : List Int) (hl : l.length ≤ 1048576) (k : Nat) (hk : 2 * l.length + 1 < k) : spec_l5Trace.f k l = some (isTr l) := by
  unfold spec_l5Trace.f
  exact l5Trace_l0 l hl l.length k 0 (by omega) (by omega) hk (by simp)
theorem isTrace1_eq (x : Int) : impl_IsTrace_1.f x = some (!okLen x) := by
  unfold impl_IsTrace_1.f
  rw [in_eq]; rfl
theorem indexFunc_l0 (l : List Int) (hl : l.length ≤ 1048576) (d : Nat) : ∀ (k i : Nat), i ≤ l.length → l.length - i = d → d < k → (l.take i).all okLen = true → ∃ r, slices_IndexFunc_int_int.l0 k l (l.length : Int) (i : Int) = some r ∧ decide (r ≥ 0) = !l.all okLen := by
  induction d with
  | zero =>
    intro k i hi hd hk ht
    obtain ⟨k, rfl⟩ := pred_of_lt hk
    refine ⟨-1, ?_, ?_⟩
    · simp only [slices_IndexFunc_int_int.l0]; rw [if_neg (by omega)]
    · rw [List.take_of_length_le (by omega)] at ht
      simp [ht]
  | succ d ih =>
    intro k i hi hd hk ht
    obtain ⟨k, rfl⟩ := pred_of_lt hk
    by_cases hc : okLen (l[i]'(by omega)) = true
    · obtain ⟨r, hr, h⟩ := ih k (i + 1) (by omega) (by omega) (by omega) (by
        rw [List.take_succ_eq_append_getElem (by omega), List.all_append, ht]
        simp [hc])
      refine ⟨r, ?_, h⟩
      simp only [slices_IndexFunc_int_int.l0]; rw [if_pos (by omega), if_pos (by omega), if_pos (by omega), rd_get l i (by omega), isTrace1_eq]
      simp only [Option.bind_some]
      rw [if_neg (by simp [hc]), wr (by omega) (by omega)]
      have e : ((i : Int) + 1) = ((i + 1 : Nat) : Int) := by omega
      rw [e]; exact hr
    · refine ⟨i, ?_, ?_⟩
      · simp only [slices_IndexFunc_int_int.l0]; rw [if_pos (by omega), if_pos (by omega), if_pos (by omega), rd_get l i (by omega), isTrace1_eq]
        simp only [Option.bind_some]
        rw [if_pos (by simp [hc])]
      · have hm : l[i]'(by omega) ∈ l := List.getElem_mem _
        have : l.all okLen = false := by
          rw [List.all_eq_false]; exact ⟨_, hm, by simpa using hc⟩
        simp [this]
theorem isTrace_eq (l : List Int) (hl : l.length ≤ 1048576) (k : Nat) (hk : l.length < k) : impl_IsTrace.f k l = some (isTr l) := by
  unfold impl_IsTrace.f
  by_cases h : (l.length : Int) % 2 = 1
  · rw [if_pos h]
    by_cases h143 : (l.length : Int) ≤ 143
    · rw [if_pos h143]
      obtain ⟨r, hr, hd⟩ := indexFunc_l0 l hl l.length k 0 (by omega) (by omega) hk (by simp)
      unfold slices_ContainsFunc_int_int.f slices_IndexFunc_int_int.f
      have hr' : slices_IndexFunc_int_int.l0 k l (l.length : Int) 0 = some r := hr
      rw [hr']
      simp only [Option.bind_some]
      rw [hd]
      simp [isTr, show l.length % 2 = 1 by omega, show l.length ≤ 143 by omega]
    · rw [if_neg h143]; simp [isTr, show ¬ l.length ≤ 143 by omega]
  · rw [if_neg h]; simp [isTr, show ¬ l.length % 2 = 1 by omega]
theorem l5Made_eq (l : List Int) (hl : l.length ≤ 1048576) (k : Nat) (hk : 2 * l.length + 1 < k) : spec_l5Made.f k l = some (if isTr l then (l, true) else ([], false)) := by
  unfold spec_l5Made.f
  rw [l5Trace_eq l hl k hk]
  simp only [Option.bind_some]
  by_cases h : isTr l = true
  · rw [if_pos h, if_pos h]
  · rw [if_neg h, if_neg h]
theorem traceOr_eq (l : List Int) (hl : l.length ≤ 1048576) (k : Nat) (hk : l.length < k) : impl_traceOr.f k l = some (if isTr l then (l, true) else ([], false)) := by
  unfold impl_traceOr.f
  rw [isTrace_eq l hl k hk]
  simp only [Option.bind_some]
  by_cases h : isTr l = true
  · rw [if_pos h, if_pos h]
  · rw [if_neg h, if_neg h]
theorem isTr_mem {l : List Int} (h : isTr l = true) : l.length ≤ 143 ∧ l.length % 2 = 1 ∧ ∀ x ∈ l, 1 ≤ x ∧ x ≤ 999 := by
  simp only [isTr, Bool.and_eq_true, decide_eq_true_eq, List.all_eq_true] at h
  refine ⟨h.2.1, h.1, fun x hx => ?_⟩
  have := h.2.2 x hx
  simpa [okLen] using this
theorem isTr_rd {l : List Int} (h : isTr l = true) (i : Nat) (hi : i < l.length) : 1 ≤ rd l (i : Int) ∧ rd l (i : Int) ≤ 999 := by
  rw [rd_get l i hi]; exact (isTr_mem h).2.2 _ (List.getElem_mem _)
theorem law_JoinTraces (l0 : List Int) (a1 : Int) (l2 : List Int) (hl : l0.length ≤ 1048576) (hl2 : l2.length ≤ 1048576) (rl : List Int) (rb : Bool) (hr : rl.length ≤ 1048576) (K : Nat)
    (hs : ∀ k, K ≤ k → spec_JoinTraces.f k l0 a1 l2 = some (rl, rb)) (hi : ∀ k, K ≤ k → impl_JoinTraces.f k l0 a1 l2 = some (rl, rb)) : ∃ k, laws_FnExactJoinTraces.f k l0 a1 l2 = some true := by
  obtain ⟨M, hM⟩ : ∃ M, M = K + l0.length + l2.length + rl.length + 10 := ⟨_, rfl⟩
  refine ⟨M + 3, ?_⟩
  have p1 := toIntS_eq l0 hl (M + 3) (by omega)
  have p1b := toIntS_eq l2 hl2 (M + 3) (by omega)
  have p2 := hs (M + 3) (by omega)
  have p3 := hi (M + 3) (by omega)
  have p4 := eqIntS_self rl hr (M + 3) (by omega)
  have q1 := toIntS_eq l0 hl (M + 2) (by omega)
  have q1b := toIntS_eq l2 hl2 (M + 2) (by omega)
  have q2 := eqIntS_self l0 hl (M + 2) (by omega)
  have q2b := eqIntS_self l2 hl2 (M + 2) (by omega)
  have q3 := markIntS_eq l0 1 (by omega) (by omega) hl (M + 2) (by omega)
  have q3b := markIntS_eq l2 (1 + (l0.length : Int)) (by omega) (by omega) hl2 (M + 2) (by omega)
  have q4 := eqIntS_self rl hr (M + 2) (by omega)
  have r1 := markIntS_eq rl 1 (by omega) (by omega) hr (M + 1) (by omega)
  have r2 := heldIntS_eq 1 (by omega) (by omega) rl.length hr (M + 1) (by omega)
  have r3 := toIntS_eq l0 hl (M + 1) (by omega)
  have r3b := toIntS_eq l2 hl2 (M + 1) (by omega)
  have r4 := hi (M + 1) (by omega)
  have r5 := eqIntS_self rl hr (M + 1) (by omega)
  have s1 := heldIntS_eq 1 (by omega) (by omega) rl.length hr M (by omega)
  unfold laws_FnExactJoinTraces.f
  rw [if_neg (by omega), if_neg (by omega)]
  simp only [p1, p1b, p2, p3, p4, Option.bind_some, if_true, bne_self_eq_false]
  simp only [laws_FnExactJoinTraces.j0, q1, q1b, q2, q2b, q3, q3b, q4, Option.bind_some, if_true, Bool.false_eq_true, if_false]
  rw [if_neg (by omega)]
  simp only [bne_self_eq_false, laws_FnExactJoinTraces.j1, r1, r2, r3, r3b, r4, r5, Option.bind_some, if_true, Bool.false_eq_true, if_false]
  rw [if_neg (by omega)]
  simp only [bne_self_eq_false, laws_FnExactJoinTraces.j2, s1, Option.bind_some, if_true, Bool.false_eq_true, if_false]
  rw [if_neg (by omega)]
theorem concat3 (a b c : List Int) (ha : a.length ≤ 200) (hb : b.length ≤ 200) (hc : c.length ≤ 200) (k : Nat) : slices_Concat_int_int.f (k + 8) [a, b, c] = some (((([] : List Int) ++ a) ++ b) ++ c) := by
  obtain ⟨L, hLd⟩ : ∃ L, L = ([a, b, c] : List (List Int)) := ⟨_, rfl⟩
  have hL : (L.length : Int) = 3 := by rw [hLd]; rfl
  have g0 : rd_L1 L 0 = a := by rw [hLd]; rfl
  have g1 : rd_L1 L 1 = b := by rw [hLd]; rfl
  have g2 : rd_L1 L 2 = c := by rw [hLd]; rfl
  have w1 : wrap64 (0 + 1) = 1 := by rw [wr (by omega) (by omega)]; rfl
  have w2 : wrap64 (1 + 1) = 2 := by rw [wr (by omega) (by omega)]; rfl
  have w3 : wrap64 (2 + 1) = 3 := by rw [wr (by omega) (by omega)]; rfl
  have l1 : ∀ m, slices_Concat_int_int.l1 (m + 4) [] L 3 0 = some (((([] : List Int) ++ a) ++ b) ++ c) := by
    intro m
    rw [slices_Concat_int_int.l1, if_pos (by omega), if_pos (by omega), if_pos (by omega), g0, if_pos (by simp only [List.length_nil]; omega), w1]
    rw [slices_Concat_int_int.l1, if_pos (by omega), if_pos (by omega), if_pos (by omega), g1, if_pos (by rw [List.length_append, List.length_nil]; omega), w2]
    rw [slices_Concat_int_int.l1, if_pos (by omega), if_pos (by omega), if_pos (by omega), g2, if_pos (by rw [List.length_append, List.length_append, List.length_nil]; omega), w3]
    rw [slices_Concat_int_int.l1, if_neg (by omega)]
  unfold slices_Concat_int_int.f
  rw [← hLd, hL]
  rw [slices_Concat_int_int.l0, if_pos (by omega), if_pos (by omega), if_pos (by omega), g0, w1, wr (i := 0 + (a.length : Int)) (by omega) (by omega), if_neg (by omega)]
  rw [slices_Concat_int_int.l0, if_pos (by omega), if_pos (by omega), if_pos (by omega), g1, w2, wr (i := 0 + (a.length : Int) + (b.length : Int)) (by omega) (by omega), if_neg (by omega)]
  rw [slices_Concat_int_int.l0, if_pos (by omega), if_pos (by omega), if_pos (by omega), g2, w3, wr (i := 0 + (a.length : Int) + (b.length : Int) + (c.length : Int)) (by omega) (by omega), if_neg (by omega)]
  rw [slices_Concat_int_int.l0, if_neg (by omega)]
  unfold grow_Nil.f
  rw [if_pos (by omega), if_pos (by omega), Option.bind_some, hL]
  exact l1 k
theorem both (l : List Int) (hl : l.length ≤ 1048576) (a1 : Int) (l2 : List Int) (hl2 : l2.length ≤ 1048576) : ∃ (rl : List Int) (rb : Bool), rl.length ≤ 1048576 ∧ ∀ k, 2 * l.length + 2 * l2.length + 2000 ≤ k → spec_JoinTraces.f k l a1 l2 = some (rl, rb) ∧ impl_JoinTraces.f k l a1 l2 = some (rl, rb) := by
  have off : ∀ k, 0 < k → spec_JoinTraces.j0 k l a1 l2 true = some ([], false) ∧ impl_JoinTraces.j0 k l a1 l2 true = some ([], false) := by
    intro k hk
    obtain ⟨k, rfl⟩ := pred_of_lt hk
    simp only [spec_JoinTraces.j0, impl_JoinTraces.j0, if_true]
    exact ⟨trivial, trivial⟩
  by_cases ht : isTr l = true
  · by_cases hu : isTr l2 = true
    · by_cases hv : (decide (1 ≤ a1) && decide (a1 ≤ 999)) = true
      · have h1 := (isTr_mem ht).1
        have h2 := (isTr_mem hu).1
        obtain ⟨T, hT⟩ : ∃ T, T = ((([] : List Int) ++ l) ++ [a1]) ++ l2 := ⟨_, rfl⟩
        have hTl : T.length ≤ 300 := by
          rw [hT, List.length_append, List.length_append, List.length_append]
          simp only [List.length_nil, List.length_cons]
          omega
        refine ⟨(if isTr T then (T, true) else ([], false)).1, (if isTr T then (T, true) else ([], false)).2, by split <;> simp <;> omega, fun k hk => ?_⟩
        obtain ⟨k, rfl⟩ : ∃ m, k = m + 1 := ⟨k - 1, by omega⟩
        have e1 := l5Made_eq T (by omega) k (by omega)
        have e2 := traceOr_eq T (by omega) k (by omega)
        have e3 : slices_Concat_int_int.f k [l, [a1], l2] = some T := by
          obtain ⟨q, rfl⟩ : ∃ q, k = q + 8 := ⟨k - 8, by omega⟩
          rw [hT]
          exact concat3 l [a1] l2 (by omega) (by simp) (by omega) q
        generalize hX : (if isTr T then (T, true) else ([], false)) = X at e1 e2 ⊢
        unfold spec_JoinTraces.f impl_JoinTraces.f
        rw [l5Trace_eq l hl _ (by omega), isTrace_eq l hl _ (by omega), ht, l5Trace_eq l2 hl2 _ (by omega), isTrace_eq l2 hl2 _ (by omega), hu, l1In_eq, in_eq, hv]
        simp only [Option.bind_some, if_true, spec_JoinTraces.j0, impl_JoinTraces.j0, Bool.not_true, Bool.false_eq_true, if_false]
        unfold spec_l1Own.f
        rw [e3]
        simp only [Option.bind_some]
        rw [if_pos (by simp only [List.length_nil]; omega)]
        simp only [Option.bind_some]
        rw [if_pos (by rw [List.length_append, List.length_nil]; omega), if_pos (by rw [List.length_append, List.length_append, List.length_nil]; simp only [List.length_cons, List.length_nil]; omega), ← hT, e1, e2]
        constructor <;> simp only [Option.bind_some]
      · refine ⟨[], false, by simp, fun k hk => ?_⟩
        unfold spec_JoinTraces.f impl_JoinTraces.f
        rw [l5Trace_eq l hl _ (by omega), isTrace_eq l hl _ (by omega), ht, l5Trace_eq l2 hl2 _ (by omega), isTrace_eq l2 hl2 _ (by omega), hu, l1In_eq, in_eq, Bool.not_eq_true _ |>.mp hv]
        simp only [Option.bind_some, if_true, Bool.not_false]
        exact off k (by omega)
    · refine ⟨[], false, by simp, fun k hk => ?_⟩
      unfold spec_JoinTraces.f impl_JoinTraces.f
      rw [l5Trace_eq l hl _ (by omega), isTrace_eq l hl _ (by omega), ht, l5Trace_eq l2 hl2 _ (by omega), isTrace_eq l2 hl2 _ (by omega), Bool.not_eq_true _ |>.mp hu]
      simp only [Option.bind_some, if_true, Bool.false_eq_true, if_false]
      exact off k (by omega)
  · refine ⟨[], false, by simp, fun k hk => ?_⟩
    unfold spec_JoinTraces.f impl_JoinTraces.f
    rw [l5Trace_eq l hl _ (by omega), isTrace_eq l hl _ (by omega), Bool.not_eq_true _ |>.mp ht]
    simp only [Option.bind_some, Bool.false_eq_true, if_false]
    exact off k (by omega)
theorem FnExactJoinTraces : laws_FnExactJoinTraces.Pure := by
  intro l a1 l2 hl h8 hwf _ _ _ _
  by_cases hs : (l.length : Int) > 1048576
  · refine ⟨0, ?_⟩
    unfold laws_FnExactJoinTraces.f
    rw [if_pos hs]
  · by_cases hs2 : (l2.length : Int) > 1048576
    · refine ⟨0, ?_⟩
      unfold laws_FnExactJoinTraces.f
      rw [if_neg hs, if_pos hs2]
    · obtain ⟨r, b, hr, h⟩ := both l (by omega) a1 l2 (by omega)
      exact law_JoinTraces l a1 l2 (by omega) (by omega) r b hr _ (fun k hk => (h k hk).1) (fun k hk => (h k hk).2)

end Go.Proofs.Ythmkplobmmafdaa.Pure
