/- RunsOf of the program and of the reference answer alike at every text. -/
import Derived.Test.YtlfheofodhfbaaaDoorHFnExactRunsOfx5
namespace Go.Proofs.YtlfheofodhfbaaaDoor.Pure
open Go.RowKit Go.Proofs.YtlfheofodhfbaaaDoor.HFnExactRunsOf Go.Proofs.YtlfheofodhfbaaaDoorW.PrintWords Go.Proofs.YtlfheofodhfbaaaDoorW.PrintLast
set_option linter.unusedVariables false
set_option linter.unusedSimpArgs false
set_option linter.unnecessarySimpa false

theorem wr {i : Int} (h0 : -9223372036854775808 ≤ i) (h1 : i ≤ 9223372036854775807) : wrap64 i = i := by unfold wrap64; omega
theorem rd_nat (xs : List Int) (i : Nat) : rd xs (i : Int) = xs.getD i 0 := by simp [rd]
theorem rd_get (xs : List Int) (i : Nat) (h : i < xs.length) : rd xs (i : Int) = xs[i] := by simp [rd, h]
theorem pred_of_lt {d k : Nat} (h : d < k) : ∃ m, k = m + 1 := ⟨k - 1, by omega⟩
/-! bytes of a text -/
theorem size_data (s : ByteArray) : s.data.toList.length = s.size := Array.length_toList
theorem bt_nat (s : ByteArray) (i : Nat) (h : i < s.size) : bt s (i : Int) = ((s.data.toList[i]'(by rw [size_data]; exact h)).toNat : Int) := by
  have := bt_at s (i : Int) (by simpa using h)
  rw [← this]
  rfl
theorem byte_num (b c : UInt8) (n : Nat) (hc : c.toNat = n) : ((b.toNat : Int) = (n : Int)) ↔ b = c := by
  constructor
  · intro h
    exact UInt8.toNat_inj.1 (by omega)
  · rintro rfl; omega
/-! what is left when bytes of a set are taken off both ends -/
theorem dropWhile_nil {p : UInt8 → Bool} (l : List UInt8) : l.dropWhile p = [] ↔ l.all p = true := by
  induction l with
  | nil => simp
  | cons a l ih =>
    rw [List.dropWhile_cons]
    by_cases h : p a = true
    · rw [if_pos h, ih]; simp [h]
    · rw [if_neg h]; simp [h]
theorem trimS_nil (l cs : List UInt8) : Lib.trimS l cs = [] ↔ l.all (cs.contains ·) = true := by
  unfold Lib.trimS Lib.trimLeftS Lib.trimRightS
  rw [dropWhile_nil]
  constructor
  · intro h
    by_cases hr : (l.reverse.dropWhile (cs.contains ·)) = []
    · rw [dropWhile_nil, List.all_reverse] at hr; exact hr
    · exfalso
      rw [List.all_reverse] at h
      cases hd : l.reverse.dropWhile (cs.contains ·) with
      | nil => exact hr hd
      | cons a t =>
        have ha : cs.contains a = false := by
          have := List.head?_dropWhile_not (cs.contains ·) l.reverse
          rw [hd] at this
          simpa using this
        rw [hd] at h
        simp at h
        rw [List.contains_eq_mem] at ha
        simp [h.1] at ha
  · intro h
    have : (l.reverse.dropWhile (cs.contains ·)) = [] := by
      rw [dropWhile_nil, List.all_reverse]; exact h
    rw [this]; rfl
theorem toList_nil (l : List UInt8) : ((⟨l.toArray⟩ : ByteArray).toList == ([] : List UInt8)) = l.isEmpty := by
  have : (⟨l.toArray⟩ : ByteArray).toList = l := by
    rw [ByteArray.toList_eq]
  rw [this]
  cases l <;> rfl
/-! a line, as both sides ask for it -/
def onOff (b : UInt8) : Bool := b == 48 || b == 49
def isLn (s : ByteArray) : Bool := decide (s.size ≤ 200) && s.data.toList.all onOff
theorem bt_is (s : ByteArray) (i : Nat) (h : i < s.size) (c : UInt8) (n : Int) (hc : (c.toNat : Int) = n) : (bt s (i : Int) = n) ↔ (s.data.toList[i]'(by rw [size_data]; exact h)) = c := by
  rw [bt_nat s i h, ← hc]
  constructor
  · intro e; exact UInt8.toNat_inj.1 (by omega)
  · intro e; rw [e]
theorem l4Line_l0 (s : ByteArray) (hs : s.size ≤ 1048576) (d : Nat) : ∀ (k i : Nat), i ≤ s.size → s.size - i = d → 2 * d + 1 < k → (s.data.toList.take i).all onOff = true → spec_l4Line.l0 k s (i : Int) = some (isLn s) := by
  have hsz := size_data s
  induction d with
  | zero =>
    intro k i hi hd hk ht
    obtain ⟨k, rfl⟩ := pred_of_lt hk
    obtain ⟨k, rfl⟩ : ∃ m, k = m + 1 := ⟨k - 1, by omega⟩
    simp only [spec_l4Line.l0]; rw [if_neg (by omega)]
    simp only [spec_l4Line.j1]; rw [if_neg (by simp)]
    rw [List.take_of_length_le (by omega)] at ht
    have : decide ((s.size : Int) ≤ 200) = decide (s.size ≤ 200) := by rw [decide_eq_decide]; omega
    rw [this]; simp [isLn, ht]
  | succ d ih =>
    intro k i hi hd hk ht
    obtain ⟨k, rfl⟩ := pred_of_lt hk
    obtain ⟨k, rfl⟩ : ∃ m, k = m + 1 := ⟨k - 1, by omega⟩
    have c1 : (i : Int) < (s.size : Int) := by omega
    have c2 : (0 : Int) ≤ (i : Int) := by omega
    have e : wrap64 ((i : Int) + 1) = ((i + 1 : Nat) : Int) := by rw [wr (by omega) (by omega)]; omega
    simp only [spec_l4Line.l0, c1, if_true, spec_l4Line.j1]
    by_cases h200 : (i : Int) ≤ 200
    · have hd2 : decide ((i : Int) ≤ 200) = true := by simpa using h200
      simp only [hd2, c2, if_true, e]
      have hlt : i < s.data.toList.length := by omega
      have next : onOff (s.data.toList[i]) = true → spec_l4Line.l0 k s ((i + 1 : Nat) : Int) = some (isLn s) := fun hb => ih k (i + 1) (by omega) (by omega) (by omega) (by
        rw [List.take_succ_eq_append_getElem hlt, List.all_append, ht]; simp only [List.all_cons, List.all_nil, hb, Bool.and_true])
      by_cases h0 : bt s (i : Int) = 48
      · rw [if_pos h0]
        exact next (by rw [bt_is s i (by omega) 48 48 (by decide)] at h0; rw [h0]; decide)
      · rw [if_neg h0]
        by_cases h1 : bt s (i : Int) = 49
        · rw [if_pos h1]
          exact next (by rw [bt_is s i (by omega) 49 49 (by decide)] at h1; rw [h1]; decide)
        · rw [if_neg h1]
          rw [bt_is s i (by omega) 48 48 (by decide)] at h0
          rw [bt_is s i (by omega) 49 49 (by decide)] at h1
          have hm : s.data.toList[i] ∈ s.data.toList := List.getElem_mem _
          have hf : s.data.toList.all onOff = false := by
            rw [List.all_eq_false]; exact ⟨_, hm, by simp only [onOff, Bool.or_eq_true, beq_iff_eq, h0, h1, or_self, not_false_eq_true]⟩
          simp [isLn, hf]
    · have hd2 : decide ((i : Int) ≤ 200) = false := by simpa using h200
      simp only [hd2, Bool.false_eq_true, if_false]
      have : decide ((s.size : Int) ≤ 200) = false := by simp; omega
      rw [this]
      simp [isLn, show ¬ s.size ≤ 200 by omega]
theorem l4Line_eq (s : ByteArray) (hs : s.size ≤ 1048576) (k : Nat) (hk : 2 * s.size + 1 < k) : spec_l4Line.f k s = some (isLn s) := by
  unfold spec_l4Line.f
  exact l4Line_l0 s hs s.size k 0 (by omega) (by omega) hk (by simp)
theorem implLine_eq (s : ByteArray) : impl_IsLine.f s = some (isLn s) := by
  unfold impl_IsLine.f
  by_cases h : (s.size : Int) ≤ 200
  · rw [if_pos h]
    unfold strings_Trim.f
    rw [if_pos (by omega), if_pos (by decide), if_pos (by decide)]
    simp only [Option.bind_some]
    rw [toList_nil]
    have e : (Lib.trimS s.data.toList [48, 49]).isEmpty = s.data.toList.all onOff := by
      rw [Bool.eq_iff_iff, List.isEmpty_iff, trimS_nil]
      have : (fun x => [48, 49].contains x) = onOff := by
        funext x
        simp [onOff, List.contains_eq_mem]
        rfl
      rw [this]
    show some (Lib.trimS s.data.toList [48, 49]).isEmpty = _
    rw [e]
    simp [isLn, show s.size ≤ 200 by omega]
  · rw [if_neg h]; simp [isLn, show ¬ s.size ≤ 200 by omega]
/-! the runs of a line -/
def rstep (x : List S40) (c : UInt8) : List S40 :=
  match x.getLast? with
  | none => [⟨(c.toNat : Int) - 48, 1⟩]
  | some p => if p.f0 = (c.toNat : Int) - 48 then x.dropLast ++ [⟨p.f0, p.f1 + 1⟩] else x ++ [⟨(c.toNat : Int) - 48, 1⟩]
def rns (l : List UInt8) : List S40 := l.foldl rstep []
theorem rns_nil : rns [] = [] := rfl
theorem rns_snoc (t : List UInt8) (c : UInt8) : rns (t ++ [c]) = rstep (rns t) c := by simp [rns]
theorem snoc_of {α : Type} (t : List α) (h : t ≠ []) : ∃ u c, t = u ++ [c] := ⟨t.dropLast, t.getLast h, (List.dropLast_concat_getLast h).symm⟩
theorem rstep_snoc (x : List S40) (p : S40) (c : UInt8) : rstep (x ++ [p]) c = if p.f0 = (c.toNat : Int) - 48 then x ++ [⟨p.f0, p.f1 + 1⟩] else x ++ [p] ++ [⟨(c.toNat : Int) - 48, 1⟩] := by
  simp only [rstep, List.getLast?_append, List.getLast?_singleton, Option.some_or, List.dropLast_concat]
/-- a run of a line that ends in b is the last one, of b -/
theorem rns_last (t : List UInt8) : ∀ (u : List UInt8) (b : UInt8), t = u ++ [b] → ∃ (x : List S40) (n : Int), rns t = x ++ [⟨(b.toNat : Int) - 48, n⟩] ∧ 1 ≤ n ∧ n ≤ (t.length : Int) := by
  induction hl : t.length generalizing t with
  | zero => intro u b h; rw [h] at hl; simp at hl
  | succ d ih =>
    intro u b h
    subst h
    rw [rns_snoc]
    by_cases hu : u = []
    · subst hu
      exact ⟨[], 1, rfl, by omega, by simp at hl ⊢; omega⟩
    · obtain ⟨v, c, rfl⟩ := snoc_of u hu
      have hd : (v ++ [c]).length = d := by simpa using hl
      obtain ⟨x, n, hx, h1, h2⟩ := ih (v ++ [c]) hd v c rfl
      rw [hx, rstep_snoc]
      by_cases hc : (c.toNat : Int) - 48 = (b.toNat : Int) - 48
      · exact ⟨x, n + 1, by rw [if_pos hc, hc], by omega, by omega⟩
      · exact ⟨x ++ [⟨(c.toNat : Int) - 48, n⟩], 1, by rw [if_neg hc], by omega, by omega⟩
theorem rns_ne (t : List UInt8) (h : t ≠ []) : rns t ≠ [] := by
  obtain ⟨u, c, rfl⟩ := snoc_of t h
  obtain ⟨x, n, hx, _⟩ := rns_last _ u c rfl
  rw [hx]; simp
theorem rstep_len (x : List S40) (c : UInt8) : (rstep x c).length ≤ x.length + 1 := by
  by_cases h : x = []
  · subst h; simp [rstep]
  · obtain ⟨y, p, rfl⟩ := snoc_of x h
    rw [rstep_snoc]
    split <;> simp
theorem rns_len (t : List UInt8) : (rns t).length ≤ t.length := by
  induction hl : t.length generalizing t with
  | zero => rw [List.length_eq_zero_iff.1 hl]; simp [rns]
  | succ d ih =>
    obtain ⟨u, c, rfl⟩ := snoc_of t (by intro h; rw [h] at hl; simp at hl)
    have := ih u (by simpa using hl)
    have h2 := rstep_len (rns u) c
    rw [rns_snoc]; omega
/-- what holds of all runs: the sign is a byte's, and there is one at least -/
theorem rns_all (t : List UInt8) : ∀ p ∈ rns t, (∃ c ∈ t, p.f0 = (c.toNat : Int) - 48) ∧ 1 ≤ p.f1 ∧ p.f1 ≤ (t.length : Int) := by
  induction hl : t.length generalizing t with
  | zero => rw [List.length_eq_zero_iff.1 hl]; simp [rns]
  | succ d ih =>
    obtain ⟨u, c, rfl⟩ := snoc_of t (by intro h; rw [h] at hl; simp at hl)
    have hu : u.length = d := by simpa using hl
    have I := ih u hu
    rw [rns_snoc]
    by_cases h : rns u = []
    · rw [h]
      intro p hp
      obtain rfl : p = ⟨(c.toNat : Int) - 48, 1⟩ := by simpa [rstep] using hp
      exact ⟨⟨c, by simp, rfl⟩, by show (1 : Int) ≤ 1; omega, by show (1 : Int) ≤ _; omega⟩
    · obtain ⟨y, q, hq⟩ := snoc_of _ h
      rw [hq, rstep_snoc]
      intro p hp
      have old : ∀ p ∈ y ++ [q], (∃ c' ∈ u ++ [c], p.f0 = (c'.toNat : Int) - 48) ∧ 1 ≤ p.f1 ∧ p.f1 ≤ ((d : Nat) : Int) := fun p hp => by
        obtain ⟨⟨c', h1, h2⟩, h3, h4⟩ := I p (by rw [hq]; exact hp)
        exact ⟨⟨c', by simp [h1], h2⟩, h3, by omega⟩
      have hqo := old q (by simp)
      split at hp
      · rename_i he
        rcases List.mem_append.1 hp with h1 | h1
        · obtain ⟨a, b, e⟩ := old p (by simp [h1]); exact ⟨a, b, by omega⟩
        · obtain rfl : p = ⟨q.f0, q.f1 + 1⟩ := by simpa using h1
          refine ⟨⟨c, by simp, he⟩, ?_, ?_⟩
          · show (1 : Int) ≤ q.f1 + 1; omega
          · show q.f1 + 1 ≤ _; omega
      · rcases List.mem_append.1 hp with h1 | h1
        · obtain ⟨a, b, e⟩ := old p h1; exact ⟨a, b, by omega⟩
        · obtain rfl : p = ⟨(c.toNat : Int) - 48, 1⟩ := by simpa using h1
          exact ⟨⟨c, by simp, rfl⟩, by show (1 : Int) ≤ 1; omega, by show (1 : Int) ≤ _; omega⟩
/-- the line of runs -/
def rbyte (f : Int) : UInt8 := UInt8.ofNat (f + 48).toNat
theorem rbyte_of (c : UInt8) : rbyte ((c.toNat : Int) - 48) = c := by
  unfold rbyte
  rw [show (c.toNat : Int) - 48 + 48 = (c.toNat : Int) by omega, Int.toNat_natCast]
  simp
def expd (x : List S40) : List UInt8 := x.flatMap fun p => List.replicate p.f1.toNat (rbyte p.f0)
theorem expd_nil : expd [] = [] := rfl
theorem expd_snoc (x : List S40) (p : S40) : expd (x ++ [p]) = expd x ++ List.replicate p.f1.toNat (rbyte p.f0) := by simp [expd]
theorem expd_rns (t : List UInt8) : expd (rns t) = t := by
  induction hl : t.length generalizing t with
  | zero => rw [List.length_eq_zero_iff.1 hl]; rfl
  | succ d ih =>
    obtain ⟨u, c, rfl⟩ := snoc_of t (by intro h; rw [h] at hl; simp at hl)
    have I := ih u (by simpa using hl)
    rw [rns_snoc]
    by_cases hu : u = []
    · subst hu
      show expd [⟨(c.toNat : Int) - 48, 1⟩] = _
      simp [expd, rbyte_of]
    · obtain ⟨v, b, rfl⟩ := snoc_of u hu
      obtain ⟨x, n, hx, h1, _⟩ := rns_last _ v b rfl
      rw [hx, expd_snoc] at I
      rw [hx, rstep_snoc]
      simp only [rbyte_of] at I
      split
      · rename_i he
        obtain rfl : b = c := by apply UInt8.toNat_inj.1; simp only at he; omega
        rw [expd_snoc]
        simp only [rbyte_of]
        rw [show (n + 1).toNat = n.toNat + 1 by omega, List.replicate_succ', ← List.append_assoc, I]
      · rw [expd_snoc, expd_snoc]
        simp only [rbyte_of]
        rw [I]; rfl
/-! both sides' runs of a line -/
theorem onOff_of {L : List UInt8} (h : L.all onOff = true) {c : UInt8} (hc : c ∈ L) : c = 48 ∨ c = 49 := by
  have := List.all_eq_true.1 h c hc
  simpa [onOff] using this
theorem sign_of {c : UInt8} (h : c = 48 ∨ c = 49) : ((c.toNat : Int) - 48) % 256 = (c.toNat : Int) - 48 := by
  rcases h with rfl | rfl <;> decide
theorem last_at (x : List S40) (p : S40) (hx : x.length ≤ 1048576) : wrap64 (((x ++ [p]).length : Int) - 1) = (x.length : Int) := by
  rw [List.length_append, List.length_singleton, wr (by omega) (by omega)]; omega
theorem last_rd (x : List S40) (p : S40) : rd_T40 (x ++ [p]) (x.length : Int) = p := by simp [rd_T40]
theorem last_set (x : List S40) (p q : S40) : (x ++ [p]).set x.length q = x ++ [q] := by simp
theorem take_snocU (L : List UInt8) (i : Nat) (h : i < L.length) : L.take (i + 1) = L.take i ++ [L[i]] := List.take_succ_eq_append_getElem h
/-- the state behind a step -/
theorem step_of (L : List UInt8) (i : Nat) (h : i + 1 < L.length) : ∃ (x : List S40) (n : Int), 1 ≤ n ∧ n ≤ ((i : Int) + 1) ∧ rns (L.take (i + 1)) = x ++ [⟨(L[i].toNat : Int) - 48, n⟩] ∧
    rns (L.take (i + 2)) = if L[i + 1] = L[i] then x ++ [⟨(L[i].toNat : Int) - 48, n + 1⟩] else x ++ [⟨(L[i].toNat : Int) - 48, n⟩] ++ [⟨(L[i + 1].toNat : Int) - 48, 1⟩] := by
  obtain ⟨x, n, hx, h1, h2⟩ := rns_last (L.take (i + 1)) (L.take i) L[i] (take_snocU L i (by omega))
  refine ⟨x, n, h1, by rw [List.length_take] at h2; omega, hx, ?_⟩
  rw [take_snocU L (i + 1) h, rns_snoc, hx, rstep_snoc]
  by_cases he : L[i + 1] = L[i]
  · rw [if_pos he, if_pos (by simp only [he])]
  · rw [if_neg he, if_neg (by
      intro e; apply he; apply UInt8.toNat_inj.1; simp only at e; omega)]
theorem rns_take_len (L : List UInt8) (i : Nat) : (rns (L.take i)).length ≤ i := by
  have := rns_len (L.take i)
  rw [List.length_take] at this; omega
theorem isLn_all {s : ByteArray} (h : isLn s = true) : s.size ≤ 200 ∧ s.data.toList.all onOff = true := by
  simpa [isLn] using h
theorem sRuns_l0 (s : ByteArray) (hs : s.size ≤ 1048576) (hb : s.data.toList.all onOff = true) (d : Nat) : ∀ (k i : Nat), i ≤ s.size → s.size - i = d → d < k →
    spec_l4Runs.l0 k s (rns (s.data.toList.take i)) (i : Int) = some (rns s.data.toList) := by
  have hsz := size_data s
  induction d with
  | zero =>
    intro k i hi hd hk
    obtain ⟨k, rfl⟩ := pred_of_lt hk
    simp only [spec_l4Runs.l0]
    rw [if_neg (by omega), List.take_of_length_le (by omega)]
  | succ d ih =>
    intro k i hi hd hk
    obtain ⟨k, rfl⟩ := pred_of_lt hk
    have hlt : i < s.data.toList.length := by omega
    have n := ih k (i + 1) (by omega) (by omega) (by omega)
    have e1 : wrap64 ((i : Int) + 1) = ((i + 1 : Nat) : Int) := by rw [wr (by omega) (by omega)]; omega
    have hm := onOff_of hb (List.getElem_mem hlt)
    have hlen := rns_take_len s.data.toList i
    simp only [spec_l4Runs.l0, e1]
    rw [if_pos (by omega)]
    by_cases h0 : (i : Int) > 0
    · obtain ⟨j, rfl⟩ : ∃ j, i = j + 1 := ⟨i - 1, by omega⟩
      obtain ⟨x, m, h1, h2, hx, hy⟩ := step_of s.data.toList j (by omega)
      have e2 : wrap64 (((j + 1 : Nat) : Int) - 1) = ((j : Nat) : Int) := by clear e1; rw [wr (by omega) (by omega)]; omega
      rw [if_pos h0, if_pos (by omega), e2, if_pos (by omega), if_pos (by omega), bt_nat s (j + 1) (by omega), bt_nat s j (by omega)]
      rw [hy] at n
      by_cases he : s.data.toList[j + 1] = s.data.toList[j]
      · rw [if_pos he] at n
        rw [if_pos (by rw [he]), hx]
        have hxl : x.length ≤ 1048576 := by rw [hx, List.length_append] at hlen; omega
        rw [last_at x _ hxl, if_pos (by omega), if_pos (by rw [List.length_append, List.length_singleton]; omega), last_rd, Int.toNat_natCast, last_set, wr (i := m + 1) (by omega) (by omega)]
        exact n
      · rw [if_neg he] at n
        rw [if_neg (by intro e; apply he; apply UInt8.toNat_inj.1; omega), if_pos (by omega), sign_of hm, hx]
        exact n
    · obtain rfl : i = 0 := by omega
      rw [if_neg h0, if_pos (by omega), if_pos (by omega), bt_nat s 0 (by omega), sign_of hm]
      have : rns (s.data.toList.take 1) = rns (s.data.toList.take 0) ++ [⟨(s.data.toList[0].toNat : Int) - 48, 1⟩] := by
        rw [take_snocU s.data.toList 0 hlt, rns_snoc]; rfl
      rw [← this]; exact n
theorem sRuns_eq (s : ByteArray) (hs : s.size ≤ 1048576) (hb : s.data.toList.all onOff = true) (k : Nat) (hk : s.size < k) : spec_l4Runs.f k s = some (rns s.data.toList) :=
  sRuns_l0 s hs hb s.size k 0 (by omega) (by omega) hk
theorem iRuns_l0 (s : ByteArray) (hs : s.size ≤ 1048576) (hb : s.data.toList.all onOff = true) (d : Nat) : ∀ (k i : Nat), i ≤ s.size → s.size - i = d → d < k →
    impl_runsOf.l0 k s (rns (s.data.toList.take i)) (s.size : Int) (i : Int) = some (rns s.data.toList) := by
  have hsz := size_data s
  induction d with
  | zero =>
    intro k i hi hd hk
    obtain ⟨k, rfl⟩ := pred_of_lt hk
    simp only [impl_runsOf.l0]
    rw [if_neg (by omega), List.take_of_length_le (by omega)]
  | succ d ih =>
    intro k i hi hd hk
    obtain ⟨k, rfl⟩ := pred_of_lt hk
    have hlt : i < s.data.toList.length := by omega
    have n := ih k (i + 1) (by omega) (by omega) (by omega)
    have e1 : wrap64 ((i : Int) + 1) = ((i + 1 : Nat) : Int) := by rw [wr (by omega) (by omega)]; omega
    have hm := onOff_of hb (List.getElem_mem hlt)
    have hlen := rns_take_len s.data.toList i
    simp only [impl_runsOf.l0, e1, Option.bind_some]
    rw [if_pos (by omega)]
    by_cases h0 : (i : Int) = 0
    · obtain rfl : i = 0 := by omega
      rw [if_pos (by omega), if_pos (by omega), if_pos (by omega), bt_nat s 0 (by omega), sign_of hm]
      have : rns (s.data.toList.take 1) = rns (s.data.toList.take 0) ++ [⟨(s.data.toList[0].toNat : Int) - 48, 1⟩] := by
        rw [take_snocU s.data.toList 0 hlt, rns_snoc]; rfl
      have hz : (rns (s.data.toList.take 0)).length ≤ 1048576 := by omega
      rw [if_pos (by omega), last_at _ _ hz, if_pos (by omega), if_pos (by rw [List.length_append, List.length_singleton]; omega), last_rd, Int.toNat_natCast, last_set, wr (i := 0 + 1) (by omega) (by omega), Int.zero_add, ← this]
      exact n
    · obtain ⟨j, rfl⟩ : ∃ j, i = j + 1 := ⟨i - 1, by omega⟩
      obtain ⟨x, m, h1, h2, hx, hy⟩ := step_of s.data.toList j (by omega)
      have e2 : wrap64 (((j + 1 : Nat) : Int) - 1) = ((j : Nat) : Int) := by clear e1; rw [wr (by omega) (by omega)]; omega
      rw [if_neg h0, if_pos (by omega), if_pos (by omega), e2, if_pos (by omega), if_pos (by omega), bt_nat s (j + 1) (by omega), bt_nat s j (by omega)]
      rw [hy] at n
      by_cases he : s.data.toList[j + 1] = s.data.toList[j]
      · rw [if_pos he] at n
        rw [if_pos (by rw [he]), hx]
        have hxl : x.length ≤ 1048576 := by rw [hx, List.length_append] at hlen; omega
        rw [last_at x _ hxl, if_pos (by omega), if_pos (by rw [List.length_append, List.length_singleton]; omega), last_rd, Int.toNat_natCast, last_set, wr (i := m + 1) (by omega) (by omega)]
        exact n
      · rw [if_neg he] at n
        have hz : (rns (s.data.toList.take (j + 1))).length ≤ 1048576 := by omega
        rw [if_neg (by intro e; apply he; apply UInt8.toNat_inj.1; omega), if_pos (by omega), sign_of hm, last_at _ _ hz, if_pos (by omega), if_pos (by rw [List.length_append, List.length_singleton]; omega), last_rd, Int.toNat_natCast, last_set, wr (i := 0 + 1) (by omega) (by omega), Int.zero_add, hx]
        exact n
theorem iRuns_eq (s : ByteArray) (hs : s.size ≤ 1048576) (hb : s.data.toList.all onOff = true) (k : Nat) (hk : s.size < k) : impl_runsOf.f k s = some (rns s.data.toList) :=
  iRuns_l0 s hs hb s.size k 0 (by omega) (by omega) hk
/-! lists of pairs: compared, marked, and found again -/
theorem eqA2_self (a b : Int) (k : Nat) (hk : 3 ≤ k) : laws_eqIntA2.f k a b a b = some true := by
  obtain ⟨k, rfl⟩ : ∃ m, k = m + 1 + 1 + 1 := ⟨k - 3, by omega⟩
  unfold laws_eqIntA2.f
  simp only [laws_eqIntA2.l0]
  simp
theorem rdA_get (X : List S40) (i : Nat) (h : i < X.length) : rd_T40 X (i : Int) = X[i] := by simp [rd_T40, h]
theorem eqA2S_l0 (a : List S40) (ha : a.length ≤ 1048576) (d : Nat) : ∀ (k i : Nat), i ≤ a.length → a.length - i = d → d + 3 < k → laws_eqIntA2S.l0 k a a (i : Int) = some true := by
  induction d with
  | zero =>
    intro k i hi hd hk
    obtain ⟨k, rfl⟩ : ∃ m, k = m + 1 := ⟨k - 1, by omega⟩
    simp only [laws_eqIntA2S.l0]; rw [if_neg (by omega)]
  | succ d ih =>
    intro k i hi hd hk
    obtain ⟨k, rfl⟩ : ∃ m, k = m + 1 := ⟨k - 1, by omega⟩
    simp only [laws_eqIntA2S.l0]; rw [if_pos (by omega), if_pos (by omega), if_pos (by omega), eqA2_self _ _ k (by omega)]
    simp only [Option.bind_some, if_true]
    rw [wr (by omega) (by omega)]
    have e : ((i : Int) + 1) = ((i + 1 : Nat) : Int) := by omega
    rw [e]
    exact ih k (i + 1) (by omega) (by omega) (by omega)
theorem eqA2S_self (a : List S40) (ha : a.length ≤ 1048576) (k : Nat) (hk : a.length + 3 < k) : laws_eqIntA2S.f k a a = some true := by
  unfold laws_eqIntA2S.f
  rw [if_pos rfl]
  exact eqA2S_l0 a ha a.length k 0 (by omega) (by omega) hk
def seqA (a : Int) (n : Nat) : List S40 := (List.range n).map fun (j : Nat) => ⟨a + 2 * (j : Int), a + 2 * (j : Int) + 1⟩
theorem seqA_len (a : Int) (n : Nat) : (seqA a n).length = n := by simp [seqA]
theorem seqA_get (a : Int) (n j : Nat) (h : j < n) : (seqA a n)[j]? = some ⟨a + 2 * (j : Int), a + 2 * (j : Int) + 1⟩ := by simp [seqA, h]
theorem rdA_set (X : List S40) (i : Nat) (p : S40) (h : i < X.length) : rd_T40 (X.set i p) (i : Int) = p := by simp [rd_T40, h]
theorem markA2S_l0 (a : Int) (h0 : 0 ≤ a) (h1 : a ≤ 10000000) (n : Nat) (hn : n ≤ 10000000) (d : Nat) : ∀ (k i : Nat) (x0 : List S40), x0.length = n → i ≤ n → n - i = d → 4 * d < k → (∀ j, j < i → x0[j]? = some ⟨a + 2 * (j : Int), a + 2 * (j : Int) + 1⟩) →
    laws_markIntA2S.l0 k x0 (a + 2 * (i : Int)) (i : Int) = some (a + 2 * (n : Int), seqA a n) := by
  induction d with
  | zero =>
    intro k i x0 hl hi hd hk ht
    obtain ⟨k, rfl⟩ := pred_of_lt hk
    have hin : i = n := by omega
    have : x0 = seqA a n := List.ext_getElem? fun j => by
      by_cases hj : j < i
      · rw [ht j hj, seqA_get a n j (by omega)]
      · rw [List.getElem?_eq_none (by omega), List.getElem?_eq_none (by rw [seqA_len]; omega)]
    simp only [laws_markIntA2S.l0]; rw [if_neg (by omega), this, hin]
  | succ d ih =>
    intro k i x0 hl hi hd hk ht
    obtain ⟨k, rfl⟩ : ∃ m, k = m + 1 + 1 + 1 + 1 := ⟨k - 4, by clear ih; omega⟩
    have hlt : i < x0.length := by clear ih; omega
    have c1 : (i : Int) < (x0.length : Int) := by clear ih; omega
    have c2 : (0 : Int) ≤ (i : Int) := by clear ih; omega
    have e1 : wrap64 ((i : Int) + 1) = ((i + 1 : Nat) : Int) := by clear ih; rw [wr (by omega) (by omega)]; omega
    have e2 : wrap64 (a + 2 * (i : Int) + 1) = a + 2 * (i : Int) + 1 := by clear ih e1; rw [wr (by omega) (by omega)]
    have e3 : wrap64 (a + 2 * (i : Int) + 1 + 1) = a + 2 * ((i + 1 : Nat) : Int) := by clear ih e1 e2; rw [wr (by omega) (by omega)]; omega
    have n := ih k (i + 1) (x0.set i ⟨a + 2 * (i : Int), a + 2 * (i : Int) + 1⟩) (by simpa using hl) (by clear ih e1 e2 e3; omega) (by clear ih e1 e2 e3; omega) (by clear ih e1 e2 e3; omega) fun j hj => by
      rw [List.getElem?_set]
      by_cases hji : i = j
      · subst hji; simp [hlt]
      · rw [if_neg hji]; exact ht j (by clear ih e1 e2 e3; omega)
    have s1 : (0 : Int) + 1 = 1 := rfl
    have s2 : (1 : Int) + 1 = 2 := rfl
    have z1 : ((1 : Int) = 0) = False := by simp
    have z2 : ((2 : Int) < 2) = False := by simp
    have z3 : ((0 : Int) < 2) = True := by simp
    have z4 : ((1 : Int) < 2) = True := by simp
    simp only [laws_markIntA2S.l0, laws_markIntA2S.l1, c1, c2, if_true, s1, s2, z1, z2, z3, z4, if_false, List.length_set, Int.toNat_natCast, e1, e2, e3]
    rw [rdA_set x0 i _ hlt, List.set_set]
    exact n
theorem markA2S_eq (l : List S40) (h : l.length ≤ 10000000) (k : Nat) (hk : 4 * l.length < k) : laws_markIntA2S.f k l 1 = some (1 + 2 * (l.length : Int), seqA 1 l.length) := by
  unfold laws_markIntA2S.f
  have := markA2S_l0 1 (by omega) (by omega) l.length h l.length k 0 l rfl (by omega) (by omega) hk (fun j hj => by omega)
  simpa using this
theorem heldA2S_l0 (a : Int) (h0 : 0 ≤ a) (h1 : a ≤ 10000000) (n : Nat) (hn : n ≤ 10000000) (d : Nat) : ∀ (k i : Nat), i ≤ n → n - i = d → 4 * d < k → laws_heldIntA2S.l0 k (seqA a n) (a + 2 * (i : Int)) (i : Int) = some (a + 2 * (n : Int)) := by
  induction d with
  | zero =>
    intro k i hi hd hk
    obtain ⟨k, rfl⟩ := pred_of_lt hk
    simp only [laws_heldIntA2S.l0]; rw [seqA_len, if_neg (by omega), show i = n by omega]
  | succ d ih =>
    intro k i hi hd hk
    obtain ⟨k, rfl⟩ : ∃ m, k = m + 1 + 1 + 1 + 1 := ⟨k - 4, by clear ih; omega⟩
    have hg : rd_T40 (seqA a n) (i : Int) = ⟨a + 2 * (i : Int), a + 2 * (i : Int) + 1⟩ := by
      have := seqA_get a n i (by clear ih; omega)
      simp only [rd_T40, Int.toNat_natCast]
      rw [List.getD_eq_getElem?_getD, this]; rfl
    have c1 : (i : Int) < (n : Int) := by clear ih; omega
    have c2 : (0 : Int) ≤ (i : Int) := by clear ih; omega
    have e1 : wrap64 ((i : Int) + 1) = ((i + 1 : Nat) : Int) := by clear ih; rw [wr (by omega) (by omega)]; omega
    have e2 : wrap64 (a + 2 * (i : Int) + 1) = a + 2 * (i : Int) + 1 := by clear ih e1; rw [wr (by omega) (by omega)]
    have e3 : wrap64 (a + 2 * (i : Int) + 1 + 1) = a + 2 * ((i + 1 : Nat) : Int) := by clear ih e1 e2; rw [wr (by omega) (by omega)]; omega
    have n := ih k (i + 1) (by clear ih e1 e2 e3; omega) (by clear ih e1 e2 e3; omega) (by clear ih e1 e2 e3; omega)
    have s1 : (0 : Int) + 1 = 1 := rfl
    have s2 : (1 : Int) + 1 = 2 := rfl
    have z1 : ((1 : Int) = 0) = False := by simp
    have z2 : ((2 : Int) < 2) = False := by simp
    have z3 : ((0 : Int) < 2) = True := by simp
    have z4 : ((1 : Int) < 2) = True := by simp
    simp only [laws_heldIntA2S.l0, laws_heldIntA2S.l1, seqA_len, c1, c2, if_true, s1, s2, z1, z2, z3, z4, if_false, hg, e1, e2, e3]
    exact n
theorem heldA2S_eq (n : Nat) (hn : n ≤ 10000000) (k : Nat) (hk : 4 * n < k) : laws_heldIntA2S.f k (seqA 1 n) 1 = some (1 + 2 * (n : Int)) := by
  unfold laws_heldIntA2S.f
  have := heldA2S_l0 1 (by omega) (by omega) n hn n k 0 (by omega) (by omega) hk
  simpa using this
theorem FnExactRunsOf : laws_FnExactRunsOf.Pure := by
  intro s hs
  by_cases h : (s.size : Int) > 1048576
  · refine ⟨0, ?_⟩
    unfold laws_FnExactRunsOf.f
    rw [if_pos h]
  · obtain ⟨M, hM⟩ : ∃ M : Nat, 6291556 ≤ M := ⟨6291556, Nat.le_refl _⟩
    refine ⟨M + 1 + 1, ?_⟩
    obtain ⟨R, b, hR, hb⟩ : ∃ (R : List S40) (b : Bool), R.length ≤ 1048576 ∧ ∀ k, 4194400 ≤ k → spec_RunsOf.f k s = some (R, b) ∧ impl_RunsOf.f k s = some (R, b) := by
      by_cases hl : isLn s = true
      · obtain ⟨hz, ho⟩ := isLn_all hl
        refine ⟨rns s.data.toList, true, by have := rns_len s.data.toList; have := size_data s; omega, fun k hk => ?_⟩
        unfold spec_RunsOf.f impl_RunsOf.f
        rw [l4Line_eq s (by omega) _ (by omega), implLine_eq, hl, sRuns_eq s (by omega) ho k (by omega), iRuns_eq s (by omega) ho k (by omega)]
        exact ⟨rfl, rfl⟩
      · refine ⟨[], false, by simp, fun k hk => ?_⟩
        unfold spec_RunsOf.f impl_RunsOf.f
        rw [l4Line_eq s (by omega) _ (by omega), implLine_eq, (Bool.not_eq_true _).mp hl]
        exact ⟨rfl, rfl⟩
    have r := hb (M + 1 + 1) (by omega)
    have r1 := hb (M + 1) (by omega)
    have hd : ¬ (1 + 2 * (R.length : Int) < 0) := by clear r r1; omega
    unfold laws_FnExactRunsOf.f
    rw [if_neg h, r.1, r.2]
    simp only [Option.bind_some, eqA2S_self R hR (M + 1 + 1) (by omega), if_true, bne_self_eq_false]
    simp only [laws_FnExactRunsOf.j0, Bool.false_eq_true, if_false, markA2S_eq R (by omega) (M + 1) (by omega), heldA2S_eq R.length (by omega) (M + 1) (by omega), Option.bind_some, hd, if_true, r1.2, eqA2S_self R hR (M + 1) (by omega), bne_self_eq_false]
    simp only [laws_FnExactRunsOf.j1, Bool.false_eq_true, if_false, heldA2S_eq R.length (by omega) M (by omega), Option.bind_some, hd, if_true]

end Go.Proofs.YtlfheofodhfbaaaDoor.Pure
