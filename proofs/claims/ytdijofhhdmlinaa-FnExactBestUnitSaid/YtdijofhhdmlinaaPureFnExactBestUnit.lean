/- BestUnit of the program and of the reference answer alike at every list. -/
import Derived.Test.YtdijofhhdmlinaaHFnExactBestUnitx2
namespace Go.Proofs.Ytdijofhhdmlinaa.Pure
open Go.RowKit Go.Proofs.Ytdijofhhdmlinaa.HFnExactBestUnit Go.Proofs.YtdijofhhdmlinaaW.PrintWords Go.Proofs.YtdijofhhdmlinaaW.PrintLast
set_option linter.unusedVariables false
set_option linter.unusedSimpArgs false
set_option linter.unnecessarySimpa false

theorem wr {i : Int} (h0 : -9223372036854775808 ≤ i) (h1 : i ≤ 9223372036854775807) : wrap64 i = i := by unfold wrap64; omega
theorem rd_nat (xs : List Int) (i : Nat) : rd xs (i : Int) = xs.getD i 0 := by simp [rd]
theorem rd_get (xs : List Int) (i : Nat) (h : i < xs.length) : rd xs (i : Int) = xs[i] := by simp [rd, h]
theorem pred_of_lt {d k : Nat} (h : d < k) : ∃ m, k = m + 1 := ⟨k - 1, by omega⟩
/-! the copies and the marks that the laws make of lists of whole numbers -/
theorem toIntS_l0 (x0 : List Int) (hx : x0.length ≤ 35184372088832) (d : Nat) : ∀ (k i : Nat) (x3 : List Int), i ≤ x0.length → x0.length - i = d → d < k → x3.length = x0.length → (∀ j, j < i → x3[j]? = x0[j]?) →
    laws_toIntS.l0 k x0 x3 (i : Int) = some x0 := by
  induction d with
  | zero =>
    intro k i x3 hi hd hk hl ht
    obtain ⟨k, rfl⟩ := pred_of_lt hk
    simp only [laws_toIntS.l0]; rw [if_neg (by omega)]
    refine congrArg some (List.ext_getElem? fun j => ?_)
    by_cases hj : j < i
    · exact ht j hj
    · rw [List.getElem?_eq_none (by omega), List.getElem?_eq_none (by omega)]
  | succ d ih =>
    intro k i x3 hi hd hk hl ht
    obtain ⟨k, rfl⟩ := pred_of_lt hk
    simp only [laws_toIntS.l0]; rw [if_pos (by omega), if_pos (by omega), if_pos (by omega), wr (by omega) (by omega)]
    have e : ((i : Int) + 1) = ((i + 1 : Nat) : Int) := by omega
    rw [e, Int.toNat_natCast, rd_get x0 i (by omega)]
    refine ih k (i + 1) _ (by omega) (by omega) (by omega) (by simpa using hl) fun j hj => ?_
    rw [List.getElem?_set]
    by_cases hji : i = j
    · subst hji
      simp [show i < x3.length by omega, show i < x0.length by omega]
    · rw [if_neg hji]; exact ht j (by omega)
theorem toIntS_eq (l : List Int) (h : l.length ≤ 1048576) (k : Nat) (hk : l.length < k) : laws_toIntS.f k l = some l := by
  unfold laws_toIntS.f
  rw [if_pos (by omega), if_pos (by omega)]
  exact toIntS_l0 l (by omega) l.length k 0 _ (by omega) (by omega) hk (by simp) (fun j hj => by omega)
theorem eqIntS_l0 (a b : List Int) (hab : a.length = b.length) (ha : a.length ≤ 1048576) (d : Nat) : ∀ (k i : Nat), i ≤ a.length → a.length - i = d → d < k → (∀ j, j < i → a[j]? = b[j]?) →
    laws_eqIntS.l0 k a b (i : Int) = some (decide (a = b)) := by
  induction d with
  | zero =>
    intro k i hi hd hk ht
    obtain ⟨k, rfl⟩ := pred_of_lt hk
    simp only [laws_eqIntS.l0]; rw [if_neg (by omega)]
    have : a = b := List.ext_getElem? fun j => by
      by_cases hj : j < i
      · exact ht j hj
      · rw [List.getElem?_eq_none (by omega), List.getElem?_eq_none (by omega)]
    simp [this]
  | succ d ih =>
    intro k i hi hd hk ht
    obtain ⟨k, rfl⟩ := pred_of_lt hk
    simp only [laws_eqIntS.l0]; rw [if_pos (by omega), if_pos (by omega), if_pos (by omega), rd_get a i (by omega), rd_get b i (by omega)]
    by_cases hc : a[i]'(by omega) = b[i]'(by omega)
    · rw [if_pos hc, wr (by omega) (by omega)]
      have e : ((i : Int) + 1) = ((i + 1 : Nat) : Int) := by omega
      rw [e]
      refine ih k (i + 1) (by omega) (by omega) (by omega) fun j hj => ?_
      by_cases hji : j = i
      · subst hji
        rw [List.getElem?_eq_getElem (by omega), List.getElem?_eq_getElem (by omega), hc]
      · exact ht j (by omega)
    · rw [if_neg hc]
      have : ¬ a = b := fun e => hc (by subst e; rfl)
      simp [this]
theorem eqIntS_eq (a b : List Int) (ha : a.length ≤ 1048576) (k : Nat) (hk : a.length < k) : laws_eqIntS.f k a b = some (decide (a = b)) := by
  unfold laws_eqIntS.f
  by_cases h : (a.length : Int) = (b.length : Int)
  · rw [if_pos h]
    exact eqIntS_l0 a b (by omega) ha a.length k 0 (by omega) (by omega) hk (fun j hj => by omega)
  · rw [if_neg h]
    have : ¬ a = b := fun e => h (by rw [e])
    simp [this]
theorem eqIntS_self (a : List Int) (ha : a.length ≤ 1048576) (k : Nat) (hk : a.length < k) : laws_eqIntS.f k a a = some true := by
  rw [eqIntS_eq a a ha k hk]; simp
/-! a trace, as both sides ask for it -/
def okLen (x : Int) : Bool := decide (1 ≤ x) && decide (x ≤ 999)
def isTr (l : List Int) : Bool := decide (l.length % 2 = 1) && (decide (l.length ≤ 143) && l.all okLen)
theorem l1In_eq (a b c : Int) : spec_l1In.f a b c = some (decide (b ≤ a) && decide (a ≤ c)) := by
  unfold spec_l1In.f
  by_cases h : a ≥ b
  · rw [if_pos h]; simp [show b ≤ a from h]
  · rw [if_neg h]; simp [show ¬ b ≤ a from h]
theorem in_eq (a b c : Int) : impl_in.f a b c = some (decide (b ≤ a) && decide (a ≤ c)) := by
  unfold impl_in.f
  by_cases h : a ≥ b
  · rw [if_pos h]; simp [show b ≤ a from h]
  · rw [if_neg h]; simp [show ¬ b ≤ a from h]
theorem l5Trace_l0 (l : List Int) (hl : l.length ≤ 1048576) (d : Nat) : ∀ (k i : Nat), i ≤ l.length → l.length - i = d → 2 * d + 1 < k → (l.take i).all okLen = true → spec_l5Trace.l0 k l (i : Int) = some (isTr l) := by
  induction d with
  | zero =>
    intro k i hi hd hk ht
    obtain ⟨k, rfl⟩ := pred_of_lt hk
    obtain ⟨k, rfl⟩ : ∃ m, k = m + 1 := ⟨k - 1, by omega⟩
    simp only [spec_l5Trace.l0]; rw [if_neg (by omega)]
    simp only [spec_l5Trace.j1]; rw [if_neg (by simp)]
    rw [List.take_of_length_le (by omega)] at ht
    unfold isTr
    by_cases h : (l.length : Int) % 2 = 1
    · rw [if_pos h]; simp only [ht]; simp [show l.length % 2 = 1 by omega]
      omega
    · rw [if_neg h]; simp [show ¬ l.length % 2 = 1 by omega]
  | succ d ih =>
    intro k i hi hd hk ht
    obtain ⟨k, rfl⟩ := pred_of_lt hk
    obtain ⟨k, rfl⟩ : ∃ m, k = m + 1 := ⟨k - 1, by omega⟩
    simp only [spec_l5Trace.l0]; rw [if_pos (by omega)]
    simp only [spec_l5Trace.j1]
    by_cases h143 : (i : Int) ≤ 143
    · rw [if_pos (by simpa using h143), if_pos (by omega), if_pos (by omega), l1In_eq]
      simp only [Option.bind_some]
      rw [rd_get l i (by omega)]
      by_cases hc : okLen (l[i]'(by omega)) = true
      · rw [if_pos (by simpa [okLen] using hc), wr (by omega) (by omega)]
        have e : ((i : Int) + 1) = ((i + 1 : Nat) : Int) := by omega
        rw [e]
        refine ih k (i + 1) (by omega) (by omega) (by omega) ?_
        rw [List.take_succ_eq_append_getElem (by omega), List.all_append, ht]
        simp [hc]
      · rw [if_neg (by simpa [okLen] using hc)]
        have hm : l[i]'(by omega) ∈ l := List.getElem_mem _
        have : l.all okLen = false := by
          rw [List.all_eq_false]; exact ⟨_, hm, by simpa using hc⟩
        simp [isTr, this]
    · rw [if_neg (by simpa using h143)]
      have : ¬ l.length ≤ 143 := by omega
      by_cases h : (l.length : Int) % 2 = 1
      · rw [if_pos h]; simp [isTr, this]
        omega
      · rw [if_neg h]; simp [isTr, this]
theorem l5Trace_eq (l : List Int) (hl : l.length ≤ 1048576) (k : Nat) (hk : 2 * l.length + 1 < k) : spec_l5Trace.f k l = some (isTr l) := by
  unfold spec_l5Trace.f
  exact l5Trace_l0 l hl l.length k 0 (by omega) (by omega) hk (by simp)
theorem isTrace1_eq (x : Int) : impl_IsTrace_1.f x = some (!okLen x) := by
  unfold impl_IsTrace_1.f
  rw [in_eq]; rfl
theorem indexFunc_l0 (l : List Int) (hl : l.length ≤ 1048576) (d : Nat) : ∀ (k i : Nat), i ≤ l.length → l.length - i = d → d < k → (l.take i).all okLen = true → ∃ r, slices_IndexFunc_int_int.l0 k l (l.length : Int) (i : Int) = some r ∧ decide (r ≥ 0) = !l.all okLen := by
  induction d with
  | zero =>
    intro k i hi hd hk ht
    obtain ⟨k, rfl⟩ := pred_of_lt hk
    refine ⟨-1, ?_, ?_⟩
    · simp only [slices_IndexFunc_int_int.l0]; rw [if_neg (by omega)]
    · rw [List.take_of_length_le (by omega)] at ht
      simp [ht]
  | succ d ih =>
    intro k i hi hd hk ht
    obtain ⟨k, rfl⟩ := pred_of_lt hk
    by_cases hc : okLen (l[i]'(by omega)) = true
    · obtain ⟨r, hr, h⟩ := ih k (i + 1) (by omega) (by omega) (by omega) (by
        rw [List.take_succ_eq_append_getElem (by omega), List.all_append, ht]
        simp [hc])
      refine ⟨r, ?_, h⟩
      simp only [slices_IndexFunc_int_int.l0]; rw [if_pos (by omega), if_pos (by omega), if_pos (by omega), rd_get l i (by omega), isTrace1_eq]
      simp only [Option.bind_some]
      rw [if_neg (by simp [hc]), wr (by omega) (by omega)]
      have e : ((i : Int) + 1) = ((i + 1 : Nat) : Int) := by omega
      rw [e]; exact hr
    · refine ⟨i, ?_, ?_⟩
      · simp only [slices_IndexFunc_int_int.l0]; rw [if_pos (by omega), if_pos (by omega), if_pos (by omega), rd_get l i (by omega), isTrace1_eq]
        simp only [Option.bind_some]
        rw [if_pos (by simp [hc])]
      · have hm : l[i]'(by omega) ∈ l := List.getElem_mem _
        have : l.all okLen = false := by
          rw [List.all_eq_false]; exact ⟨_, hm, by simpa using hc⟩
        simp [this]
theorem isTrace_eq (l : List Int) (hl : l.length ≤ 1048576) (k : Nat) (hk : l.length < k) : impl_IsTrace.f k l = some (isTr l) := by
  unfold impl_IsTrace.f
  by_cases h : (l.length : Int) % 2 = 1
  · rw [if_pos h]
    by_cases h143 : (l.length : Int) ≤ 143
    · rw [if_pos h143]
      obtain ⟨r, hr, hd⟩ := indexFunc_l0 l hl l.length k 0 (by omega) (by omega) hk (by simp)
      unfold slices_ContainsFunc_int_int.f slices_IndexFunc_int_int.f
      have hr' : slices_IndexFunc_int_int.l0 k l (l.length : Int) 0 = some r := hr
      rw [hr']
      simp only [Option.bind_some]
      rw [hd]
      simp [isTr, show l.length % 2 = 1 by omega, show l.length ≤ 143 by omega]
    · rw [if_neg h143]; simp [isTr, show ¬ l.length ≤ 143 by omega]
  · rw [if_neg h]; simp [isTr, show ¬ l.length % 2 = 1 by omega]
theorem most_eq (a b : Int) : spec_l1Most.f a b = some (mx a b) := by
  unfold spec_l1Most.f mx
  by_cases h : a > b
  · rw [if_pos h, if_neg (by omega)]
  · rw [if_neg h]
    by_cases h2 : a < b
    · rw [if_pos h2]
    · rw [if_neg h2, show a = b by omega]
theorem times_eq (l : List Int) (i : Nat) (u : Int) (hi : i < l.length) : ∃ (t : Int) (s : ByteArray), spec_l5Times.f l (i : Int) u = some t ∧ ∀ k, 0 < k → impl_readAs.f k (i : Int) (rd l (i : Int)) u = some (s, t) := by
  unfold spec_l5Times.f
  rw [if_pos (by omega), if_pos (by omega)]
  by_cases h0 : (Int.tmod (i : Int) 2) = 0
  · by_cases h1 : rd l (i : Int) < wrap64 (2 * u)
    · rw [if_pos h1]
      refine ⟨1, ⟨#[46]⟩, rfl, fun k hk => ?_⟩
      obtain ⟨k, rfl⟩ := pred_of_lt hk
      unfold impl_readAs.f
      rw [if_pos h0]
      simp only [impl_readAs.j0]
      rw [if_pos (by simpa using h1)]
    · rw [if_neg h1, if_pos h0]
      refine ⟨3, ⟨#[45]⟩, rfl, fun k hk => ?_⟩
      obtain ⟨k, rfl⟩ := pred_of_lt hk
      unfold impl_readAs.f
      rw [if_pos h0]
      simp only [impl_readAs.j0]
      rw [if_neg (by simpa using h1), if_pos h0]
  · by_cases h1 : rd l (i : Int) < wrap64 (2 * u)
    · rw [if_pos h1]
      refine ⟨1, ⟨#[]⟩, rfl, fun k hk => ?_⟩
      obtain ⟨k, rfl⟩ := pred_of_lt hk
      unfold impl_readAs.f
      rw [if_neg h0]
      simp only [impl_readAs.j0]
      rw [if_neg (by simp), if_neg h0, if_pos h1]
    · rw [if_neg h1, if_neg h0]
      by_cases h2 : rd l (i : Int) < wrap64 (5 * u)
      · rw [if_pos h2]
        refine ⟨3, ⟨#[32]⟩, rfl, fun k hk => ?_⟩
        obtain ⟨k, rfl⟩ := pred_of_lt hk
        unfold impl_readAs.f
        rw [if_neg h0]
        simp only [impl_readAs.j0]
        rw [if_neg (by simp), if_neg h0, if_neg h1, if_pos h2]
      · rw [if_neg h2]
        refine ⟨7, ⟨#[47]⟩, rfl, fun k hk => ?_⟩
        obtain ⟨k, rfl⟩ := pred_of_lt hk
        unfold impl_readAs.f
        rw [if_neg h0]
        simp only [impl_readAs.j0]
        rw [if_neg (by simp), if_neg h0, if_neg h1, if_neg h2]
theorem drifts (l : List Int) (hl : l.length ≤ 1048576) (u : Int) (d : Nat) : ∀ (i : Nat) (acc : Int), i ≤ l.length → l.length - i = d →
    ∃ r, ∀ k, d + 1 < k → spec_l5Drift.l0 k l u acc (i : Int) = some r ∧ impl_drift.l0 k u acc l (l.length : Int) (i : Int) = some r := by
  induction d with
  | zero =>
    intro i acc hi hd
    refine ⟨acc, fun k hk => ?_⟩
    obtain ⟨k, rfl⟩ := pred_of_lt hk
    simp only [spec_l5Drift.l0, impl_drift.l0]
    rw [if_neg (by omega), if_neg (by omega)]
    exact ⟨rfl, rfl⟩
  | succ d ih =>
    intro i acc hi hd
    obtain ⟨t, s, h1, h2⟩ := times_eq l i u (by omega)
    obtain ⟨r, hr⟩ := ih (i + 1) (wrap64 (acc + mx (wrap64 (rd l (i : Int) - wrap64 (t * u))) (wrap64 (-(wrap64 (rd l (i : Int) - wrap64 (t * u))))))) (by omega) (by omega)
    refine ⟨r, fun k hk => ?_⟩
    obtain ⟨k, rfl⟩ := pred_of_lt hk
    simp only [spec_l5Drift.l0, impl_drift.l0]
    rw [if_pos (by omega), if_pos (by omega), if_pos (by omega), if_pos (by omega), if_pos (by omega), h1, h2 k (by omega)]
    simp only [Option.bind_some]
    rw [most_eq]
    simp only [Option.bind_some]
    rw [wr (i := (i : Int) + 1) (by omega) (by omega)]
    have e : ((i : Int) + 1) = ((i + 1 : Nat) : Int) := by omega
    rw [e]
    exact hr k (by omega)
theorem drift_eq (l : List Int) (hl : l.length ≤ 1048576) (u : Int) : ∃ r, ∀ k, l.length + 1 < k → spec_l5Drift.f k l u = some r ∧ impl_drift.f k l u = some r := by
  obtain ⟨r, h⟩ := drifts l hl u l.length 0 0 (by omega) (by omega)
  exact ⟨r, fun k hk => h k hk⟩
theorem loops (l : List Int) (hl : l.length ≤ 1048576) (d : Nat) : ∀ (u best least : Int), 2 ≤ u → u ≤ 100 → 100 - u = (d : Int) → (∀ k, l.length + 1 < k → spec_l5Drift.f k l best = some least ∧ impl_drift.f k l best = some least) →
    ∃ r1 r2, ∀ k, d + l.length + 2 < k → spec_BestUnit.l0 k l best least u = some (r1, r2, true) ∧ impl_BestUnit.l0 k l best u = some (r1, r2, true) := by
  induction d with
  | zero =>
    intro u best least h0 h1 hd hb
    refine ⟨best, least, fun k hk => ?_⟩
    obtain ⟨k, rfl⟩ := pred_of_lt hk
    simp only [spec_BestUnit.l0, impl_BestUnit.l0]
    rw [if_neg (by omega), if_neg (by omega), (hb k (by omega)).2]
    exact ⟨rfl, rfl⟩
  | succ d ih =>
    intro u best least h0 h1 hd hb
    obtain ⟨v, hv⟩ := drift_eq l hl u
    by_cases hc : v < least
    · obtain ⟨r1, r2, h⟩ := ih (u + 1) u v (by omega) (by omega) (by omega) hv
      refine ⟨r1, r2, fun k hk => ?_⟩
      obtain ⟨k, rfl⟩ := pred_of_lt hk
      simp only [spec_BestUnit.l0, impl_BestUnit.l0]
      rw [if_pos (by omega), if_pos (by omega), (hv k (by omega)).1, (hv k (by omega)).2, (hb k (by omega)).2]
      simp only [Option.bind_some]
      rw [if_pos hc, if_pos hc, wr (by omega) (by omega)]
      exact h k (by omega)
    · obtain ⟨r1, r2, h⟩ := ih (u + 1) best least (by omega) (by omega) (by omega) hb
      refine ⟨r1, r2, fun k hk => ?_⟩
      obtain ⟨k, rfl⟩ := pred_of_lt hk
      simp only [spec_BestUnit.l0, impl_BestUnit.l0]
      rw [if_pos (by omega), if_pos (by omega), (hv k (by omega)).1, (hv k (by omega)).2, (hb k (by omega)).2]
      simp only [Option.bind_some]
      rw [if_neg hc, if_neg hc, wr (by omega) (by omega)]
      exact h k (by omega)
theorem both (l : List Int) (hl : l.length ≤ 1048576) : ∃ (r1 r2 : Int) (b : Bool), ∀ k, 2 * l.length + 200 ≤ k → spec_BestUnit.f k l = some (r1, r2, b) ∧ impl_BestUnit.f k l = some (r1, r2, b) := by
  by_cases ht : isTr l = true
  · obtain ⟨v, hv⟩ := drift_eq l hl 1
    obtain ⟨r1, r2, h⟩ := loops l hl 98 2 1 v (by omega) (by omega) (by omega) hv
    refine ⟨r1, r2, true, fun k hk => ?_⟩
    unfold spec_BestUnit.f impl_BestUnit.f
    rw [l5Trace_eq l hl _ (by omega), isTrace_eq l hl _ (by omega), ht]
    simp only [Option.bind_some, if_true]
    rw [(hv k (by omega)).1]
    exact h k (by omega)
  · refine ⟨0, 0, false, fun k hk => ?_⟩
    unfold spec_BestUnit.f impl_BestUnit.f
    rw [l5Trace_eq l hl _ (by omega), isTrace_eq l hl _ (by omega), Bool.not_eq_true _ |>.mp ht]
    simp only [Option.bind_some, Bool.false_eq_true, if_false]
    exact ⟨trivial, trivial⟩
theorem FnExactBestUnit : laws_FnExactBestUnit.Pure := by
  intro l hl h8 hwf
  by_cases hs : (l.length : Int) > 1048576
  · refine ⟨0, ?_⟩
    unfold laws_FnExactBestUnit.f
    rw [if_pos hs]
  · obtain ⟨r1, r2, b, h⟩ := both l (by omega)
    refine ⟨2 * l.length + 300 + 1, ?_⟩
    unfold laws_FnExactBestUnit.f
    rw [if_neg hs]
    simp only [toIntS_eq l (by omega) (2 * l.length + 300 + 1) (by omega), (h (2 * l.length + 300 + 1) (by omega)).1, (h (2 * l.length + 300 + 1) (by omega)).2, Option.bind_some, if_true, bne_self_eq_false]
    simp only [laws_FnExactBestUnit.j0, Bool.false_eq_true, if_false, toIntS_eq l (by omega) (2 * l.length + 300) (by omega), eqIntS_self l (by omega) (2 * l.length + 300) (by omega), Option.bind_some, if_true]

end Go.Proofs.Ytdijofhhdmlinaa.Pure
