/- What the machine does at each Go function that the law reaches is what the Lean function of its name says. -/
import Derived.Test.YtpdojionnmehbaaGreatDoorHFnExactFirstMisleadingx0
import Derived.Test.YtpdojionnmehbaaGreatDoorHFnExactFirstMisleadingx6
namespace Go.Proofs.YtpdojionnmehbaaGreatDoor.HFnExactFirstMisleading
open Go.RowKit Go.Proofs.YtpdojionnmehbaaGreatDoorW.PrintWords Go.Proofs.YtpdojionnmehbaaGreatDoorW.PrintLast Go.Proofs.YtpdojionnmehbaaGreatDoorW.PrintMore
attribute [local go_sem] max2_int min2_int max_two min_two max_three min_three max_four min_four   -- for this text's walks alone
set_option linter.unusedVariables false
set_option linter.unusedSimpArgs false

/-! ### impl_misleading: function 25 (by hand) -/
/-! the least text of each rest, whatever the order in which it is reckoned -/
def impl_misleading.gen (n : Nat) (x : List UInt8) : Nat := x.foldl (fun n c => 2 * n + if c = 46 then 0 else 1) n
def impl_misleading.code (x : List UInt8) : Nat := impl_misleading.gen 1 x
def impl_misleading.dd (x : List UInt8) : Bool := x.all fun c => c == 46 || c == 45
def impl_misleading.sfx (T : List ByteArray) : List (List UInt8) := T.flatMap fun c => (List.range (c.data.toList.length + 1)).map fun i => c.data.toList.drop i
def impl_misleading.initAt (T : List ByteArray) (i j : Nat) : Option (List UInt8 × List UInt8) := if i ≠ j ∧ (T.getD i ByteArray.empty).data.toList.isPrefixOf (T.getD j ByteArray.empty).data.toList = true then some ((T.getD j ByteArray.empty).data.toList.drop (T.getD i ByteArray.empty).data.toList.length, (T.getD j ByteArray.empty).data.toList) else none
def impl_misleading.inits (T : List ByteArray) : List (List UInt8 × List UInt8) := (List.range T.length).flatMap fun i => (List.range T.length).filterMap fun j => impl_misleading.initAt T i j
def impl_misleading.ext (r x c : List UInt8) : Option (List UInt8 × List UInt8) := if c.isPrefixOf r = true then some (r.drop c.length, x) else if r.isPrefixOf c = true then some (c.drop r.length, x ++ c.drop r.length) else none
def impl_misleading.cands (T : List ByteArray) (m : List UInt8 → Option (List UInt8)) : List (List UInt8 × List UInt8) := impl_misleading.inits T ++ (impl_misleading.sfx T).flatMap fun r => match m r with
  | some x => if r = [] then [] else T.filterMap fun c => impl_misleading.ext r x c.data.toList
  | none => []
def impl_misleading.bad (m : List UInt8 → Option (List UInt8)) (p : List UInt8 × List UInt8) : Bool := match m p.1 with
  | some y => decide (impl_misleading.code p.2 < impl_misleading.code y)
  | none => true
def impl_misleading.upd (m : List UInt8 → Option (List UInt8)) (r x : List UInt8) : List UInt8 → Option (List UInt8) := fun q => if q = r then some x else m q
def impl_misleading.it : Nat → List ByteArray → (List UInt8 → Option (List UInt8)) → Option (List UInt8 → Option (List UInt8))
  | 0, _, _ => none
  | k + 1, T, m => match (impl_misleading.cands T m).find? (impl_misleading.bad m) with
    | none => some m
    | some p => impl_misleading.it k T (impl_misleading.upd m p.1 p.2)
def impl_misleading.ok (T : List ByteArray) : Bool := (decide (0 < T.length) && decide (T.length ≤ 10)) && T.all fun c => decide (1 ≤ c.size) && decide (c.size ≤ 5) && impl_misleading.dd c.data.toList
def impl_misleading.out (m : List UInt8 → Option (List UInt8)) : ByteArray × Bool := match m [] with
  | some x => (⟨x.toArray⟩, true)
  | none => (⟨#[]⟩, false)
def impl_misleading.cnt (T : List ByteArray) (m : List UInt8 → Option (List UInt8)) : Nat := (impl_misleading.sfx T).countP fun r => (m r).isSome
def impl_misleading.top : Nat := 400
def impl_misleading.wt (m : List UInt8 → Option (List UInt8)) (r : List UInt8) : Nat := match m r with
  | some x => impl_misleading.code x
  | none => 2 ^ impl_misleading.top
def impl_misleading.phi (T : List ByteArray) (m : List UInt8 → Option (List UInt8)) : Nat := ((impl_misleading.sfx T).map (impl_misleading.wt m)).sum
def impl_misleading.f (l0_0 : List ByteArray) : Option (ByteArray × Bool) := if impl_misleading.ok l0_0 = true then (impl_misleading.it (impl_misleading.phi l0_0 (fun _ => none) + 1) l0_0 fun _ => none).map impl_misleading.out else none
/-- a rest that some two readings leave, with the text of the longer one -/
def impl_misleading.Reach (T : List ByteArray) (r x : List UInt8) : Prop := ∀ P : List UInt8 → List UInt8 → Prop, (∀ p ∈ impl_misleading.inits T, P p.1 p.2) → (∀ r x c p, P r x → r ≠ [] → c ∈ T → impl_misleading.ext r x c.data.toList = some p → P p.1 p.2) → P r x
def impl_misleading.Sound (T : List ByteArray) (m : List UInt8 → Option (List UInt8)) : Prop := ∀ r x, m r = some x → impl_misleading.Reach T r x
def impl_misleading.Closed (T : List ByteArray) (m : List UInt8 → Option (List UInt8)) : Prop := (∀ p ∈ impl_misleading.inits T, impl_misleading.bad m p = false) ∧ ∀ r x c p, m r = some x → r ≠ [] → c ∈ T → impl_misleading.ext r x c.data.toList = some p → impl_misleading.bad m p = false
def impl_misleading.Le (m m' : List UInt8 → Option (List UInt8)) : Prop := ∀ r x, m r = some x → ∃ y, m' r = some y ∧ impl_misleading.code y ≤ impl_misleading.code x
structure impl_misleading.Good (T : List ByteArray) (m : List UInt8 → Option (List UInt8)) : Prop where
  sound : impl_misleading.Sound T m
  len : ∀ r x, m r = some x → x.length ≤ 5 + 5 * impl_misleading.cnt T m
theorem impl_misleading.gen_cons (n : Nat) (c : UInt8) (x : List UInt8) : impl_misleading.gen n (c :: x) = impl_misleading.gen (2 * n + if c = 46 then 0 else 1) x := rfl
theorem impl_misleading.gen_lo : ∀ (x : List UInt8) (n : Nat), n * 2 ^ x.length ≤ impl_misleading.gen n x
  | [], n => by simp [impl_misleading.gen]
  | c :: x, n => by
    rw [impl_misleading.gen_cons, List.length_cons]
    refine Nat.le_trans ?_ (impl_misleading.gen_lo x _)
    rw [Nat.pow_succ, Nat.mul_comm (2 ^ x.length) 2, ← Nat.mul_assoc, Nat.mul_comm n 2]
    exact Nat.mul_le_mul_right _ (by omega)
theorem impl_misleading.gen_hi : ∀ (x : List UInt8) (n : Nat), impl_misleading.gen n x < (n + 1) * 2 ^ x.length
  | [], n => by simp [impl_misleading.gen]
  | c :: x, n => by
    rw [impl_misleading.gen_cons, List.length_cons]
    refine Nat.lt_of_lt_of_le (impl_misleading.gen_hi x _) ?_
    rw [Nat.pow_succ, Nat.mul_comm (2 ^ x.length) 2, ← Nat.mul_assoc]
    exact Nat.mul_le_mul_right _ (by split <;> omega)
theorem impl_misleading.gen_mono : ∀ (x : List UInt8) (n m : Nat), n ≤ m → impl_misleading.gen n x ≤ impl_misleading.gen m x
  | [], _, _, h => h
  | c :: x, n, m, h => by
    rw [impl_misleading.gen_cons, impl_misleading.gen_cons]
    exact impl_misleading.gen_mono x _ _ (by omega)
theorem impl_misleading.gen_inj : ∀ (x y : List UInt8) (n m : Nat), x.length = y.length → impl_misleading.dd x = true → impl_misleading.dd y = true → impl_misleading.gen n x = impl_misleading.gen m y → n = m ∧ x = y
  | [], [], _, _, _, _, _, h => ⟨h, rfl⟩
  | [], _ :: _, _, _, h, _, _, _ => by simp at h
  | _ :: _, [], _, _, h, _, _, _ => by simp at h
  | c :: x, d :: y, n, m, hl, hx, hy, h => by
    rw [impl_misleading.gen_cons, impl_misleading.gen_cons] at h
    simp only [impl_misleading.dd, List.all_cons, Bool.and_eq_true, Bool.or_eq_true, beq_iff_eq] at hx hy
    obtain ⟨e, rfl⟩ := impl_misleading.gen_inj x y _ _ (by simpa using hl) hx.2 hy.2 h
    rcases hx.1 with rfl | rfl <;> rcases hy.1 with rfl | rfl
    · simp at e; exact ⟨by omega, rfl⟩
    · simp at e; omega
    · simp at e; omega
    · simp at e; exact ⟨by omega, rfl⟩
theorem impl_misleading.code_lo (x : List UInt8) : 2 ^ x.length ≤ impl_misleading.code x := by have := impl_misleading.gen_lo x 1; unfold impl_misleading.code; omega
theorem impl_misleading.code_hi (x : List UInt8) : impl_misleading.code x < 2 ^ (x.length + 1) := by have := impl_misleading.gen_hi x 1; unfold impl_misleading.code; rw [Nat.pow_succ]; omega
theorem impl_misleading.code_len {x y : List UInt8} (h : impl_misleading.code x ≤ impl_misleading.code y) : x.length ≤ y.length := by
  have h1 := impl_misleading.code_lo x
  have h2 := impl_misleading.code_hi y
  have h3 : 2 ^ x.length < 2 ^ (y.length + 1) := by omega
  have := (Nat.pow_lt_pow_iff_right (a := 2) (by omega)).1 h3
  omega
theorem impl_misleading.code_short {x y : List UInt8} (h : x.length < y.length) : impl_misleading.code x < impl_misleading.code y := by
  have h1 := impl_misleading.code_hi x
  have h2 := impl_misleading.code_lo y
  have h3 : 2 ^ (x.length + 1) ≤ 2 ^ y.length := Nat.pow_le_pow_right (by omega) h
  omega
theorem impl_misleading.code_inj {x y : List UInt8} (hx : impl_misleading.dd x = true) (hy : impl_misleading.dd y = true) (h : impl_misleading.code x = impl_misleading.code y) : x = y := by
  have h1 := impl_misleading.code_len (Nat.le_of_eq h)
  have h2 := impl_misleading.code_len (Nat.le_of_eq h.symm)
  exact (impl_misleading.gen_inj x y 1 1 (by omega) hx hy h).2
theorem impl_misleading.code_app {x y : List UInt8} (s : List UInt8) (h : impl_misleading.code x ≤ impl_misleading.code y) : impl_misleading.code (x ++ s) ≤ impl_misleading.code (y ++ s) := by
  have e : ∀ z : List UInt8, impl_misleading.code (z ++ s) = impl_misleading.gen (impl_misleading.code z) s := fun z => by unfold impl_misleading.code impl_misleading.gen; rw [List.foldl_append]
  rw [e, e]; exact impl_misleading.gen_mono s _ _ h
theorem impl_misleading.dd_drop {x : List UInt8} (n : Nat) (h : impl_misleading.dd x = true) : impl_misleading.dd (x.drop n) = true := by
  unfold impl_misleading.dd at *
  rw [List.all_eq_true] at *
  exact fun c hc => h c (List.mem_of_mem_drop hc)
theorem impl_misleading.dd_app {x y : List UInt8} (h : impl_misleading.dd x = true) (h' : impl_misleading.dd y = true) : impl_misleading.dd (x ++ y) = true := by
  unfold impl_misleading.dd at *
  rw [List.all_append, h, h']; rfl
theorem impl_misleading.ok_mem {T : List ByteArray} (h : impl_misleading.ok T = true) {c : ByteArray} (hc : c ∈ T) : 1 ≤ c.data.toList.length ∧ c.data.toList.length ≤ 5 ∧ impl_misleading.dd c.data.toList = true := by
  simp only [impl_misleading.ok, Bool.and_eq_true, List.all_eq_true, decide_eq_true_eq] at h
  have h1 := h.2 c hc
  have e : c.data.toList.length = c.size := Array.length_toList
  exact ⟨by omega, by omega, h1.2⟩
theorem impl_misleading.ok_len {T : List ByteArray} (h : impl_misleading.ok T = true) : T.length ≤ 10 := by
  simp only [impl_misleading.ok, Bool.and_eq_true, decide_eq_true_eq] at h
  exact h.1.2
theorem impl_misleading.ok_pos {T : List ByteArray} (h : impl_misleading.ok T = true) : 0 < T.length := by
  simp only [impl_misleading.ok, Bool.and_eq_true, decide_eq_true_eq] at h
  exact h.1.1
theorem impl_misleading.init_iff {T : List ByteArray} {p : List UInt8 × List UInt8} : p ∈ impl_misleading.inits T ↔ ∃ i j, i < T.length ∧ j < T.length ∧ impl_misleading.initAt T i j = some p := by
  unfold impl_misleading.inits
  constructor
  · intro h
    obtain ⟨i, hi, h2⟩ := List.mem_flatMap.1 h
    obtain ⟨j, hj, h3⟩ := List.mem_filterMap.1 h2
    exact ⟨i, j, List.mem_range.1 hi, List.mem_range.1 hj, h3⟩
  · rintro ⟨i, j, hi, hj, h⟩
    exact List.mem_flatMap.2 ⟨i, List.mem_range.2 hi, List.mem_filterMap.2 ⟨j, List.mem_range.2 hj, h⟩⟩
theorem impl_misleading.getD_mem {T : List ByteArray} {j : Nat} (h : j < T.length) : T.getD j ByteArray.empty ∈ T := by
  rw [List.getD_eq_getElem?_getD, List.getElem?_eq_getElem h]; exact List.getElem_mem h
theorem impl_misleading.init_of {T : List ByteArray} {p : List UInt8 × List UInt8} (h : p ∈ impl_misleading.inits T) : ∃ b ∈ T, p.2 = b.data.toList ∧ ∃ n, p.1 = b.data.toList.drop n := by
  obtain ⟨i, j, hi, hj, h⟩ := impl_misleading.init_iff.1 h
  unfold impl_misleading.initAt at h
  split at h
  · obtain rfl := Option.some.inj h
    exact ⟨_, impl_misleading.getD_mem hj, rfl, _, rfl⟩
  · cases h
theorem impl_misleading.sfx_iff {T : List ByteArray} {r : List UInt8} : r ∈ impl_misleading.sfx T ↔ ∃ c ∈ T, ∃ n, r = c.data.toList.drop n := by
  unfold impl_misleading.sfx
  constructor
  · intro h
    obtain ⟨c, hc, h2⟩ := List.mem_flatMap.1 h
    obtain ⟨n, _, rfl⟩ := List.mem_map.1 h2
    exact ⟨c, hc, n, rfl⟩
  · rintro ⟨c, hc, n, rfl⟩
    refine List.mem_flatMap.2 ⟨c, hc, ?_⟩
    by_cases h : n ≤ c.data.toList.length
    · exact List.mem_map.2 ⟨n, List.mem_range.2 (by omega), rfl⟩
    · exact List.mem_map.2 ⟨c.data.toList.length, List.mem_range.2 (by omega), by rw [List.drop_length, List.drop_eq_nil_of_le (by omega)]⟩
theorem impl_misleading.sfx_len {T : List ByteArray} (h : impl_misleading.ok T = true) : (impl_misleading.sfx T).length ≤ 60 := by
  have hm : ∀ l : List ByteArray, (∀ c ∈ l, c.data.toList.length ≤ 5) → (impl_misleading.sfx l).length ≤ 6 * l.length := by
    intro l
    induction l with
    | nil => intro _; simp [impl_misleading.sfx]
    | cons c l ih =>
      intro hc
      have h1 := ih fun d hd => hc d (List.mem_cons_of_mem _ hd)
      have h2 := hc c (List.mem_cons_self ..)
      have e : (impl_misleading.sfx (c :: l)).length = (c.data.toList.length + 1) + (impl_misleading.sfx l).length := by simp only [impl_misleading.sfx, List.flatMap_cons, List.length_append, List.length_map, List.length_range]
      rw [e, List.length_cons]; omega
  have h1 := hm T fun c hc => (impl_misleading.ok_mem h hc).2.1
  have h2 := impl_misleading.ok_len h
  omega
theorem impl_misleading.Reach.init {T : List ByteArray} {p : List UInt8 × List UInt8} (h : p ∈ impl_misleading.inits T) : impl_misleading.Reach T p.1 p.2 := fun _ h1 _ => h1 p h
theorem impl_misleading.Reach.step {T : List ByteArray} {r x : List UInt8} {c : ByteArray} {p : List UInt8 × List UInt8} (h : impl_misleading.Reach T r x) (hr : r ≠ []) (hc : c ∈ T) (he : impl_misleading.ext r x c.data.toList = some p) : impl_misleading.Reach T p.1 p.2 := fun P h1 h2 => h2 r x c p (h P h1 h2) hr hc he
theorem impl_misleading.ext_cases {r x c : List UInt8} {p : List UInt8 × List UInt8} (h : impl_misleading.ext r x c = some p) : (∃ n, p.1 = r.drop n ∧ p.2 = x) ∨ (∃ n, p.1 = c.drop n ∧ p.2 = x ++ c.drop n) := by
  unfold impl_misleading.ext at h
  split at h
  · obtain rfl := Option.some.inj h; exact Or.inl ⟨_, rfl, rfl⟩
  · split at h
    · obtain rfl := Option.some.inj h; exact Or.inr ⟨_, rfl, rfl⟩
    · cases h
theorem impl_misleading.ext_map {r x y c : List UInt8} {p : List UInt8 × List UInt8} (h : impl_misleading.ext r x c = some p) (hl : impl_misleading.code y ≤ impl_misleading.code x) : ∃ q, impl_misleading.ext r y c = some q ∧ q.1 = p.1 ∧ impl_misleading.code q.2 ≤ impl_misleading.code p.2 := by
  unfold impl_misleading.ext at *
  split at h
  · rename_i h1
    obtain rfl := Option.some.inj h
    exact ⟨(r.drop c.length, y), by rw [if_pos h1], rfl, hl⟩
  · rename_i h1
    split at h
    · rename_i h2
      obtain rfl := Option.some.inj h
      exact ⟨(c.drop r.length, y ++ c.drop r.length), by rw [if_neg h1, if_pos h2], rfl, impl_misleading.code_app _ hl⟩
    · cases h
theorem impl_misleading.reach_ok {T : List ByteArray} (hT : impl_misleading.ok T = true) {r x : List UInt8} (h : impl_misleading.Reach T r x) : r ∈ impl_misleading.sfx T ∧ impl_misleading.dd x = true := by
  refine h (fun r x => r ∈ impl_misleading.sfx T ∧ impl_misleading.dd x = true) (fun p hp => ?_) (fun r x c p hx hr hc he => ?_)
  · obtain ⟨b, hb, e2, n, e1⟩ := impl_misleading.init_of hp
    exact ⟨impl_misleading.sfx_iff.2 ⟨b, hb, n, e1⟩, by rw [e2]; exact (impl_misleading.ok_mem hT hb).2.2⟩
  · rcases impl_misleading.ext_cases he with ⟨n, e1, e2⟩ | ⟨n, e1, e2⟩
    · obtain ⟨b, hb, k, rfl⟩ := impl_misleading.sfx_iff.1 hx.1
      exact ⟨impl_misleading.sfx_iff.2 ⟨b, hb, k + n, by rw [e1, List.drop_drop]⟩, by rw [e2]; exact hx.2⟩
    · exact ⟨impl_misleading.sfx_iff.2 ⟨c, hc, n, e1⟩, by rw [e2]; exact impl_misleading.dd_app hx.2 (impl_misleading.dd_drop _ (impl_misleading.ok_mem hT hc).2.2)⟩
theorem impl_misleading.bad_false {m : List UInt8 → Option (List UInt8)} {p : List UInt8 × List UInt8} (h : impl_misleading.bad m p = false) : ∃ y, m p.1 = some y ∧ impl_misleading.code y ≤ impl_misleading.code p.2 := by
  unfold impl_misleading.bad at h
  split at h
  · rename_i y hy
    exact ⟨y, hy, by simpa using h⟩
  · cases h
theorem impl_misleading.bad_of {m : List UInt8 → Option (List UInt8)} {p : List UInt8 × List UInt8} {y : List UInt8} (h : m p.1 = some y) (hl : impl_misleading.code y ≤ impl_misleading.code p.2) : impl_misleading.bad m p = false := by
  unfold impl_misleading.bad
  rw [h]
  simpa using hl
theorem impl_misleading.least {T : List ByteArray} {m : List UInt8 → Option (List UInt8)} (hc : impl_misleading.Closed T m) {r x : List UInt8} (h : impl_misleading.Reach T r x) : ∃ y, m r = some y ∧ impl_misleading.code y ≤ impl_misleading.code x := by
  refine h (fun r x => ∃ y, m r = some y ∧ impl_misleading.code y ≤ impl_misleading.code x) (fun p hp => impl_misleading.bad_false (hc.1 p hp)) (fun r x c p hx hr hcT he => ?_)
  obtain ⟨y, hy, hl⟩ := hx
  obtain ⟨q, hq, e1, e2⟩ := impl_misleading.ext_map he hl
  obtain ⟨z, hz, hzl⟩ := impl_misleading.bad_false (hc.2 r y c q hy hr hcT hq)
  rw [e1] at hz
  exact ⟨z, hz, Nat.le_trans hzl e2⟩
theorem impl_misleading.uniq {T : List ByteArray} (hT : impl_misleading.ok T = true) {m m' : List UInt8 → Option (List UInt8)} (h1 : impl_misleading.Sound T m) (h2 : impl_misleading.Closed T m) (h3 : impl_misleading.Sound T m') (h4 : impl_misleading.Closed T m') (r : List UInt8) : m r = m' r := by
  cases e : m r with
  | none =>
    cases e' : m' r with
    | none => rfl
    | some y =>
      obtain ⟨z, hz, _⟩ := impl_misleading.least h2 (h3 r y e')
      rw [e] at hz; cases hz
  | some x =>
    obtain ⟨y, hy, l1⟩ := impl_misleading.least h4 (h1 r x e)
    obtain ⟨z, hz, l2⟩ := impl_misleading.least h2 (h3 r y hy)
    rw [e] at hz
    obtain rfl := Option.some.inj hz
    rw [hy, impl_misleading.code_inj (impl_misleading.reach_ok hT (h1 r x e)).2 (impl_misleading.reach_ok hT (h3 r y hy)).2 (by omega)]
theorem impl_misleading.Le.refl (m : List UInt8 → Option (List UInt8)) : impl_misleading.Le m m := fun _ x h => ⟨x, h, Nat.le_refl _⟩
theorem impl_misleading.Le.trans {a b c : List UInt8 → Option (List UInt8)} (h : impl_misleading.Le a b) (h' : impl_misleading.Le b c) : impl_misleading.Le a c := fun r x hx => by
  obtain ⟨y, hy, l⟩ := h r x hx
  obtain ⟨z, hz, l'⟩ := h' r y hy
  exact ⟨z, hz, Nat.le_trans l' l⟩
theorem impl_misleading.bad_le {m m' : List UInt8 → Option (List UInt8)} (h : impl_misleading.Le m m') {p : List UInt8 × List UInt8} (hb : impl_misleading.bad m p = false) : impl_misleading.bad m' p = false := by
  obtain ⟨y, hy, l⟩ := impl_misleading.bad_false hb
  obtain ⟨z, hz, l'⟩ := h _ _ hy
  exact impl_misleading.bad_of hz (Nat.le_trans l' l)
theorem impl_misleading.sum_lt (g h : List UInt8 → Nat) (r0 : List UInt8) (h0 : g r0 < h r0) : ∀ l : List (List UInt8), (∀ r ∈ l, g r ≤ h r) → (l.map g).sum ≤ (l.map h).sum ∧ (r0 ∈ l → (l.map g).sum < (l.map h).sum)
  | [], _ => ⟨Nat.le_refl _, fun h => by simp at h⟩
  | r :: l, hl => by
    have ih := impl_misleading.sum_lt g h r0 h0 l fun q hq => hl q (List.mem_cons_of_mem _ hq)
    have h1 := hl r (List.mem_cons_self ..)
    simp only [List.map_cons, List.sum_cons]
    refine ⟨by omega, fun hm => ?_⟩
    rcases List.mem_cons.1 hm with rfl | hm
    · omega
    · have := ih.2 hm; omega
theorem impl_misleading.count_lt (p q : List UInt8 → Bool) (r0 : List UInt8) (h0 : p r0 = false) (h1 : q r0 = true) (hpq : ∀ r, p r = true → q r = true) : ∀ l : List (List UInt8), l.countP p ≤ l.countP q ∧ (r0 ∈ l → l.countP p + 1 ≤ l.countP q)
  | [] => ⟨Nat.le_refl _, fun h => by simp at h⟩
  | r :: l => by
    have ih := impl_misleading.count_lt p q r0 h0 h1 hpq l
    rw [List.countP_cons, List.countP_cons]
    have hr := hpq r
    refine ⟨?_, fun hm => ?_⟩
    · cases hp : p r
      · have := ih.1; simp; omega
      · have := ih.1; rw [hr hp]; omega
    · rcases List.mem_cons.1 hm with rfl | hm
      · rw [h0, h1]; have := ih.1; simp; omega
      · have := ih.2 hm
        cases hp : p r
        · simp; omega
        · rw [hr hp]; omega
theorem impl_misleading.cnt_le {T : List ByteArray} (hT : impl_misleading.ok T = true) (m : List UInt8 → Option (List UInt8)) : impl_misleading.cnt T m ≤ 60 := Nat.le_trans List.countP_le_length (impl_misleading.sfx_len hT)
/-- a text is put at its rest: the rest had none, or a later one -/
theorem impl_misleading.put_good {T : List ByteArray} (hT : impl_misleading.ok T = true) {m : List UInt8 → Option (List UInt8)} (h : impl_misleading.Good T m) {p : List UInt8 × List UInt8} (hr : impl_misleading.Reach T p.1 p.2) (hl : p.2.length ≤ 10 + 5 * impl_misleading.cnt T m) (hb : impl_misleading.bad m p = true) :
    impl_misleading.Good T (impl_misleading.upd m p.1 p.2) ∧ impl_misleading.phi T (impl_misleading.upd m p.1 p.2) < impl_misleading.phi T m ∧ impl_misleading.Le m (impl_misleading.upd m p.1 p.2) ∧ impl_misleading.cnt T m + (if m p.1 = none then 1 else 0) ≤ impl_misleading.cnt T (impl_misleading.upd m p.1 p.2) := by
  have hs := (impl_misleading.reach_ok hT hr).1
  have h60 := impl_misleading.cnt_le hT m
  have hcode : impl_misleading.code p.2 < 2 ^ impl_misleading.top := Nat.lt_of_lt_of_le (impl_misleading.code_hi p.2) (Nat.pow_le_pow_right (by omega) (by unfold impl_misleading.top; omega))
  have hsome : ∀ r, (m r).isSome = true → (impl_misleading.upd m p.1 p.2 r).isSome = true := fun r h => by
    unfold impl_misleading.upd
    split
    · rfl
    · exact h
  have hcnt : impl_misleading.cnt T m + (if m p.1 = none then 1 else 0) ≤ impl_misleading.cnt T (impl_misleading.upd m p.1 p.2) := by
    by_cases e : m p.1 = none
    · rw [if_pos e]
      exact (impl_misleading.count_lt (fun r => (m r).isSome) (fun r => (impl_misleading.upd m p.1 p.2 r).isSome) p.1 (by rw [e]; rfl) (by simp [impl_misleading.upd]) hsome _).2 hs
    · rw [if_neg e, Nat.add_zero]
      exact List.countP_mono_left fun r _ h => hsome r h
  have hlo : ∀ y, m p.1 = some y → impl_misleading.code p.2 < impl_misleading.code y := fun y hy => by
    unfold impl_misleading.bad at hb
    rw [hy] at hb
    simpa using hb
  refine ⟨⟨fun r x hx => ?_, fun r x hx => ?_⟩, ?_, fun r x hx => ?_, hcnt⟩
  · unfold impl_misleading.upd at hx
    split at hx
    · rename_i e
      obtain rfl := Option.some.inj hx
      rw [e]; exact hr
    · exact h.sound r x hx
  · unfold impl_misleading.upd at hx
    split at hx
    · rename_i e
      obtain rfl := Option.some.inj hx
      cases em : m p.1 with
      | none => rw [if_pos em] at hcnt; omega
      | some y =>
        have h1 := h.len _ _ em
        have h2 := impl_misleading.code_len (Nat.le_of_lt (hlo y em))
        rw [em, if_neg (by simp)] at hcnt
        omega
    · have := h.len r x hx; omega
  · refine (impl_misleading.sum_lt (impl_misleading.wt (impl_misleading.upd m p.1 p.2)) (impl_misleading.wt m) p.1 ?_ _ fun r _ => ?_).2 hs
    · unfold impl_misleading.wt impl_misleading.upd
      rw [if_pos rfl]
      cases em : m p.1 with
      | none => exact hcode
      | some y => exact hlo y em
    · by_cases e : r = p.1
      · subst e
        unfold impl_misleading.wt impl_misleading.upd
        rw [if_pos rfl]
        cases em : m p.1 with
        | none => exact Nat.le_of_lt hcode
        | some y => exact Nat.le_of_lt (hlo y em)
      · have : impl_misleading.upd m p.1 p.2 r = m r := if_neg e
        unfold impl_misleading.wt
        rw [this]
        exact Nat.le_refl _
  · by_cases e : r = p.1
    · rw [e] at hx
      exact ⟨p.2, if_pos e, Nat.le_of_lt (hlo x hx)⟩
    · exact ⟨x, (if_neg e).trans hx, Nat.le_refl _⟩
theorem impl_misleading.init_len {T : List ByteArray} (hT : impl_misleading.ok T = true) {p : List UInt8 × List UInt8} (h : p ∈ impl_misleading.inits T) : p.2.length ≤ 5 := by
  obtain ⟨b, hb, e2, _⟩ := impl_misleading.init_of h
  rw [e2]; exact (impl_misleading.ok_mem hT hb).2.1
theorem impl_misleading.ext_len {T : List ByteArray} (hT : impl_misleading.ok T = true) {r x : List UInt8} {c : ByteArray} (hc : c ∈ T) {p : List UInt8 × List UInt8} (he : impl_misleading.ext r x c.data.toList = some p) : p.2.length ≤ x.length + 5 := by
  have h5 := (impl_misleading.ok_mem hT hc).2.1
  rcases impl_misleading.ext_cases he with ⟨n, _, e2⟩ | ⟨n, _, e2⟩
  · rw [e2]; omega
  · rw [e2, List.length_append, List.length_drop]; omega
theorem impl_misleading.good_none (T : List ByteArray) : impl_misleading.Good T (fun _ => none) := ⟨fun _ _ h => by (simp at h), fun _ _ h => by (simp at h)⟩
theorem impl_misleading.cand_of {T : List ByteArray} {m : List UInt8 → Option (List UInt8)} {p : List UInt8 × List UInt8} (h : p ∈ impl_misleading.cands T m) : p ∈ impl_misleading.inits T ∨ ∃ r x c, m r = some x ∧ r ≠ [] ∧ c ∈ T ∧ impl_misleading.ext r x c.data.toList = some p := by
  rcases List.mem_append.1 h with h | h
  · exact Or.inl h
  · obtain ⟨r, _, h2⟩ := List.mem_flatMap.1 h
    refine Or.inr ?_
    split at h2
    · rename_i x hx
      split at h2
      · simp at h2
      · rename_i hr
        obtain ⟨c, hc, he⟩ := List.mem_filterMap.1 h2
        exact ⟨r, x, c, hx, hr, hc, he⟩
    · simp at h2
theorem impl_misleading.cand_good {T : List ByteArray} (hT : impl_misleading.ok T = true) {m : List UInt8 → Option (List UInt8)} (h : impl_misleading.Good T m) {p : List UInt8 × List UInt8} (hp : p ∈ impl_misleading.cands T m) : impl_misleading.Reach T p.1 p.2 ∧ p.2.length ≤ 10 + 5 * impl_misleading.cnt T m := by
  rcases impl_misleading.cand_of hp with hp | ⟨r, x, c, hx, hr, hc, he⟩
  · exact ⟨impl_misleading.Reach.init hp, by have := impl_misleading.init_len hT hp; omega⟩
  · exact ⟨(h.sound r x hx).step hr hc he, by have h1 := impl_misleading.ext_len hT hc he; have h2 := h.len r x hx; omega⟩
theorem impl_misleading.closed_of {T : List ByteArray} (hT : impl_misleading.ok T = true) {m : List UInt8 → Option (List UInt8)} (h : impl_misleading.Good T m) (hn : (impl_misleading.cands T m).find? (impl_misleading.bad m) = none) : impl_misleading.Closed T m := by
  have hall := List.find?_eq_none.1 hn
  refine ⟨fun p hp => (Bool.not_eq_true _).mp (hall p (List.mem_append_left _ hp)), fun r x c p hx hr hc he => (Bool.not_eq_true _).mp (hall p (List.mem_append_right _ (List.mem_flatMap.2 ⟨r, (impl_misleading.reach_ok hT (h.sound r x hx)).1, ?_⟩)))⟩
  rw [hx]
  simp only
  rw [if_neg hr]
  exact List.mem_filterMap.2 ⟨c, hc, he⟩
theorem impl_misleading.it_ok {T : List ByteArray} (hT : impl_misleading.ok T = true) : ∀ (k : Nat) (m q : List UInt8 → Option (List UInt8)), impl_misleading.Good T m → impl_misleading.it k T m = some q → impl_misleading.Good T q ∧ impl_misleading.Closed T q
  | 0, _, _, _, h => by cases h
  | k + 1, m, q, hg, h => by
    unfold impl_misleading.it at h
    split at h
    · rename_i hn
      obtain rfl := Option.some.inj h
      exact ⟨hg, impl_misleading.closed_of hT hg hn⟩
    · rename_i p hp
      obtain ⟨h1, h2⟩ := impl_misleading.cand_good hT hg (List.mem_of_find?_eq_some hp)
      exact impl_misleading.it_ok hT k _ q (impl_misleading.put_good hT hg h1 h2 (List.find?_some hp)).1 h
theorem impl_misleading.it_ends {T : List ByteArray} (hT : impl_misleading.ok T = true) : ∀ (n : Nat) (m : List UInt8 → Option (List UInt8)), impl_misleading.Good T m → impl_misleading.phi T m < n → ∃ q, ∀ k, n ≤ k → impl_misleading.it k T m = some q
  | 0, _, _, h => by omega
  | n + 1, m, hg, h => by
    cases hf : (impl_misleading.cands T m).find? (impl_misleading.bad m) with
    | none =>
      refine ⟨m, fun k hk => ?_⟩
      obtain ⟨k, rfl⟩ : ∃ j, k = j + 1 := ⟨k - 1, by omega⟩
      unfold impl_misleading.it
      rw [hf]
    | some p =>
      obtain ⟨h1, h2⟩ := impl_misleading.cand_good hT hg (List.mem_of_find?_eq_some hf)
      obtain ⟨g1, g2, _⟩ := impl_misleading.put_good hT hg h1 h2 (List.find?_some hf)
      obtain ⟨q, hq⟩ := impl_misleading.it_ends hT n _ g1 (by omega)
      refine ⟨q, fun k hk => ?_⟩
      obtain ⟨k, rfl⟩ : ∃ j, k = j + 1 := ⟨k - 1, by omega⟩
      unfold impl_misleading.it
      rw [hf]
      exact hq k (by omega)
/-- whoever is sound and closed tells what the function answers -/
theorem impl_misleading.f_is {T : List ByteArray} {R : ByteArray × Bool} (h : impl_misleading.f T = some R) {m : List UInt8 → Option (List UInt8)} (h1 : impl_misleading.Sound T m) (h2 : impl_misleading.Closed T m) : R = impl_misleading.out m := by
  unfold impl_misleading.f at h
  split at h
  · rename_i hT
    obtain ⟨q, hq, rfl⟩ := Option.map_eq_some_iff.1 h
    obtain ⟨hg, hc⟩ := impl_misleading.it_ok hT _ _ q (impl_misleading.good_none T) hq
    unfold impl_misleading.out
    rw [impl_misleading.uniq hT hg.sound hc h1 h2]
  · cases h
theorem impl_misleading.f_valid {T : List ByteArray} {R : ByteArray × Bool} (h : impl_misleading.f T = some R) : impl_misleading.ok T = true := by
  unfold impl_misleading.f at h
  split at h
  · assumption
  · cases h
theorem impl_misleading.f_ends {T : List ByteArray} (hT : impl_misleading.ok T = true) {m : List UInt8 → Option (List UInt8)} (h1 : impl_misleading.Sound T m) (h2 : impl_misleading.Closed T m) : impl_misleading.f T = some (impl_misleading.out m) := by
  obtain ⟨q, hq⟩ := impl_misleading.it_ends hT _ _ (impl_misleading.good_none T) (Nat.lt_succ_self _)
  have e : impl_misleading.f T = some (impl_misleading.out q) := by
    unfold impl_misleading.f
    rw [if_pos hT, hq _ (Nat.le_refl _)]; rfl
  rw [e, impl_misleading.f_is e h1 h2]
theorem impl_misleading.law : Go.Maps.Keyed Tryz.prog 9 := Go.Maps.string_keyed Tryz.underlying9
theorem impl_misleading.zeroS (w : World) : (zeroValue 9).run Tryz.prog w = .ok (.string ByteArray.empty) w := by kernel_rfl
theorem impl_misleading.elemS (s : ByteArray) (h : s.size ≤ maxLen) : plainElem (H := Unit) Tryz.prog 9 (.string s) = some (.lit (.string s.data.toList), []) := plainElem_string Tryz.underlying9 h
def impl_misleading.txt : Option (List UInt8) → ByteArray
  | some x => ⟨x.toArray⟩
  | none => ByteArray.empty
/-- block b is the map of the texts -/
def impl_misleading.Owns (T : List ByteArray) (w : World) (b : Nat) (m : List UInt8 → Option (List UInt8)) : Prop := ∃ D : DataW Unit, w.ownsMap Tryz.prog 9 (plainElem Tryz.prog 9) b 60 D ∧ (∀ r, Maps.has D (.string r) = (m r).isSome) ∧ (∀ r x, m r = some x → ∀ z, D.atKey (.string r) z = .lit (.string x)) ∧ Maps.size D ≤ impl_misleading.cnt T m
theorem impl_misleading.tight {P : Program} {k : TypeId} {R : Value → Option (DataW Unit × List MemPlace)} {w : World} {b n n' : Nat} {D : DataW Unit} (h : w.ownsMap P k R b n D) (hs : Maps.size D ≤ n') : w.ownsMap P k R b n' D := by
  obtain ⟨es, clock, hb, F, _, rfl⟩ := h
  refine ⟨es, clock, hb, F, ?_, rfl⟩
  have e : Maps.size (DataW.map ((es.toList.map (Go.WideElems.rg P k R)).foldr DataW.insert [])) = es.size := by
    show List.length _ = _
    rw [length_sorted, List.length_map, Array.length_toList]
  exact Nat.le_trans (Nat.le_of_eq e.symm) hs
theorem impl_misleading.str_inv {v : Value} {x : List UInt8} {ps : List MemPlace} (h : plainElem (H := Unit) Tryz.prog 9 v = some (.lit (.string x), ps)) : v = .string ⟨x.toArray⟩ := by
  obtain ⟨s, rfl, h1, _⟩ := plainElem_string_inv Tryz.underlying9 h
  rw [Lit.string.inj (DataW.lit.inj (Prod.mk.inj h1).1)]
theorem impl_misleading.Owns.at_ {T : List ByteArray} {D : DataW Unit} {m : List UInt8 → Option (List UInt8)} (h1 : ∀ r, Maps.has D (.string r) = (m r).isSome) (h2 : ∀ r x, m r = some x → ∀ z, D.atKey (.string r) z = .lit (.string x)) (r : List UInt8) : D.atKey (.string r) (.lit (.string [])) = .lit (.string (impl_misleading.txt (m r)).data.toList) := by
  cases e : m r with
  | some x => rw [h2 r x e]; rfl
  | none => rw [Maps.atKey_of_not_has (by rw [h1, e]; rfl)]; rfl
theorem impl_misleading.Owns.look_ok {T : List ByteArray} {w : World} {b : Nat} {m : List UInt8 → Option (List UInt8)} (h : impl_misleading.Owns T w b m) (s : ByteArray) (hs : s.size ≤ maxLen) :
    (Instr.lookup 57 (.map (some b)) (.string s) true).run Tryz.prog w = .ok (.tuple #[.string (impl_misleading.txt (m s.data.toList)), .bool (m s.data.toList).isSome]) w := by
  obtain ⟨D, h0, h1, h2, _⟩ := h
  obtain ⟨v, ps, hrun, hv⟩ := h0.look_ok impl_misleading.law Tryz.underlying57 (impl_misleading.zeroS w) (impl_misleading.elemS ByteArray.empty (by decide)) (WideMaps.keyOf_string_mk Tryz.underlying9 hs)
  have hat := impl_misleading.Owns.at_ (T := T) h1 h2 s.data.toList
  rw [hrun, h1]
  have e0 : (ByteArray.empty).data.toList = [] := rfl
  rw [e0, hat] at hv
  rw [impl_misleading.str_inv hv]
theorem impl_misleading.Owns.look {T : List ByteArray} {w : World} {b : Nat} {m : List UInt8 → Option (List UInt8)} (h : impl_misleading.Owns T w b m) (s : ByteArray) (hs : s.size ≤ maxLen) :
    (Instr.lookup 57 (.map (some b)) (.string s) false).run Tryz.prog w = .ok (.string (impl_misleading.txt (m s.data.toList))) w := by
  obtain ⟨D, h0, h1, h2, _⟩ := h
  obtain ⟨v, ps, hrun, hv⟩ := h0.lookup impl_misleading.law Tryz.underlying57 (impl_misleading.zeroS w) (impl_misleading.elemS ByteArray.empty (by decide)) (WideMaps.keyOf_string_mk Tryz.underlying9 hs)
  have hat := impl_misleading.Owns.at_ (T := T) h1 h2 s.data.toList
  rw [hrun]
  have e0 : (ByteArray.empty).data.toList = [] := rfl
  rw [e0, hat] at hv
  rw [impl_misleading.str_inv hv]
theorem impl_misleading.Owns.update {T : List ByteArray} (hT : impl_misleading.ok T = true) {w : World} {b : Nat} {m : List UInt8 → Option (List UInt8)} (h : impl_misleading.Owns T w b m) (s x : ByteArray) (hs : s.size ≤ maxLen) (hx : x.size ≤ maxLen) (hc : impl_misleading.cnt T m + (if m s.data.toList = none then 1 else 0) ≤ impl_misleading.cnt T (impl_misleading.upd m s.data.toList x.data.toList)) :
    ∃ w', (Instr.mapUpdate 57 (.map (some b)) (.string s) (.string x)).run Tryz.prog w = .ok () w' ∧ impl_misleading.Owns T w' b (impl_misleading.upd m s.data.toList x.data.toList) ∧ w.grownBy w' (some b) := by
  obtain ⟨D, h0, h1, h2, h3⟩ := h
  have hki : WideAt.IsKeyLit (.string s.data.toList) := trivial
  obtain ⟨w', hrun, ho, hg⟩ := h0.update impl_misleading.law Tryz.underlying57 (by unfold maxLen; omega) (WideMaps.keyOf_string_mk Tryz.underlying9 hs) (impl_misleading.elemS x hx)
  have hsz := Maps.size_put (h0.tidy impl_misleading.law) (k := .string s.data.toList) (.lit (.string x.data.toList))
  rw [h1] at hsz
  have hle : Maps.size (D.put (.string s.data.toList) (.lit (.string x.data.toList))) ≤ impl_misleading.cnt T (impl_misleading.upd m s.data.toList x.data.toList) := by
    rw [hsz]
    cases e : m s.data.toList with
    | none => rw [e, if_pos rfl] at hc; simp; omega
    | some y => rw [e, if_neg (by simp)] at hc; simp; omega
  refine ⟨w', hrun, ⟨_, impl_misleading.tight ho (Nat.le_trans hle (impl_misleading.cnt_le hT _)), fun r => ?_, fun r y hy z => ?_, hle⟩, hg⟩
  · by_cases e : r = s.data.toList
    · rw [e, Maps.has_put_same h0.isMap hki]; simp [impl_misleading.upd]
    · rw [Maps.has_put_other (fun q => e (by injection q)), h1]; simp [impl_misleading.upd, e]
  · by_cases e : r = s.data.toList
    · rw [e] at hy ⊢
      rw [Maps.atKey_put_same h0.isMap hki]
      have : x.data.toList = y := by simpa [impl_misleading.upd] using hy
      rw [this]
    · rw [Maps.atKey_put_other (fun q => e (by injection q))]
      exact h2 r y (by simpa [impl_misleading.upd, e] using hy) z
theorem impl_misleading.Owns.kept {T : List ByteArray} {w w' : World} {b : Nat} {m : List UInt8 → Option (List UInt8)} {row : Option Nat} (h : impl_misleading.Owns T w b m) (hg : w.grownBy w' row) (hne : some b ≠ row) : impl_misleading.Owns T w' b m := by
  obtain ⟨D, h0, h1⟩ := h
  exact ⟨D, h0.kept hg hne, h1⟩
theorem impl_misleading.Owns.lt {T : List ByteArray} {w : World} {b : Nat} {m : List UInt8 → Option (List UInt8)} (h : impl_misleading.Owns T w b m) : b < w.heap.size := h.choose_spec.1.lt
theorem impl_misleading.Owns.made (T : List ByteArray) (w : World) : impl_misleading.Owns T (w.alloc (.map #[] 0)) w.heap.size (fun _ => none) :=
  ⟨.map [], (World.ownsMap_made w _ _ _).mono (by omega), fun _ => rfl, fun _ _ h => by simp at h, by simp [Maps.size]⟩
theorem impl_misleading.less_ : ∀ (x y : List UInt8) (n : Nat), x.length = y.length → impl_misleading.dd x = true → impl_misleading.dd y = true → Op.bytesLess (x.map impl_opposite.opB) (y.map impl_opposite.opB) = decide (impl_misleading.gen n x < impl_misleading.gen n y)
  | [], [], n, _, _, _ => by simp [Op.bytesLess, impl_misleading.gen]
  | [], _ :: _, _, h, _, _ => by simp at h
  | _ :: _, [], _, h, _, _ => by simp at h
  | c :: x, d :: y, n, hl, hx, hy => by
    have hl' : x.length = y.length := by simpa using hl
    simp only [impl_misleading.dd, List.all_cons, Bool.and_eq_true, Bool.or_eq_true, beq_iff_eq] at hx hy
    have h1 := impl_misleading.gen_lo x
    have h2 := impl_misleading.gen_hi x
    have h3 := impl_misleading.gen_lo y
    have h4 := impl_misleading.gen_hi y
    rw [impl_misleading.gen_cons, impl_misleading.gen_cons, List.map_cons, List.map_cons]
    rcases hx.1 with rfl | rfl <;> rcases hy.1 with rfl | rfl
    · rw [← impl_misleading.less_ x y _ hl' hx.2 hy.2]; rfl
    · have g1 := h2 (2 * n)
      have g2 := h3 (2 * n + 1)
      rw [hl'] at g1
      rw [decide_eq_true (show impl_misleading.gen (2 * n + if (46 : UInt8) = 46 then 0 else 1) x < impl_misleading.gen (2 * n + if (45 : UInt8) = 46 then 0 else 1) y from Nat.lt_of_lt_of_le g1 g2)]
      rfl
    · have g1 := h4 (2 * n)
      have g2 := h1 (2 * n + 1)
      rw [hl'] at g2
      rw [decide_eq_false (show ¬ impl_misleading.gen (2 * n + if (45 : UInt8) = 46 then 0 else 1) x < impl_misleading.gen (2 * n + if (46 : UInt8) = 46 then 0 else 1) y from Nat.not_lt.2 (Nat.le_of_lt (Nat.lt_of_lt_of_le g1 g2)))]
      rfl
    · rw [← impl_misleading.less_ x y _ hl' hx.2 hy.2]; rfl
theorem impl_misleading.first_eq (x y : ByteArray) (hx : x.size ≤ 1000000) (hy : y.size ≤ 1000000) (dx : impl_misleading.dd x.data.toList = true) (dy : impl_misleading.dd y.data.toList = true) : impl_comesFirst.f x y = some (decide (impl_misleading.code x.data.toList < impl_misleading.code y.data.toList)) := by
  have ex : x.data.toList.length = x.size := Array.length_toList
  have ey : y.data.toList.length = y.size := Array.length_toList
  unfold impl_comesFirst.f
  by_cases h : (x.size : Int) = (y.size : Int)
  · rw [if_pos h]
    have f1 : impl_opposite.f x = some (impl_opposite.opp x) := if_pos hx
    have f2 : impl_opposite.f y = some (impl_opposite.opp y) := if_pos hy
    rw [f1, f2]
    simp only [Option.bind_some]
    have t1 : (impl_opposite.opp x).toList = x.data.toList.map impl_opposite.opB := by rw [impl_opposite.opp, ByteArray.toList_eq]
    have t2 : (impl_opposite.opp y).toList = y.data.toList.map impl_opposite.opB := by rw [impl_opposite.opp, ByteArray.toList_eq]
    rw [t1, t2, impl_misleading.less_ _ _ 1 (by omega) dx dy]
    rfl
  · rw [if_neg h]
    by_cases hl : x.size < y.size
    · rw [decide_eq_true (show (x.size : Int) < (y.size : Int) by omega), decide_eq_true (impl_misleading.code_short (by omega))]
    · have := impl_misleading.code_short (x := y.data.toList) (y := x.data.toList) (by omega)
      rw [decide_eq_false (show ¬ (x.size : Int) < (y.size : Int) by omega), decide_eq_false (by omega)]
theorem impl_misleading.grown_ {w w' : World} (h : Below w.heap.size w w') (row : Option Nat) : w.grownBy w' row := ⟨h.os, h.tape, h.output, h.size, fun i hi _ => h.block i hi⟩
set_option maxRecDepth 100000 in
set_option maxHeartbeats 4000000 in
/-- the function that puts a text at its rest -/
theorem impl_misleading.put {T : List ByteArray} (hT : impl_misleading.ok T = true) (b c : Nat) (m : List UInt8 → Option (List UInt8)) (W : World) (ho : impl_misleading.Owns T W b m) (hc : W.cell? ⟨c, 0, none⟩ = some (.map (some b))) (hbc : b ≠ c) (s x : ByteArray) (hs : s.size ≤ 1000) (hx : x.size ≤ 1000) (dx : impl_misleading.dd x.data.toList = true)
    (hdm : ∀ y, m s.data.toList = some y → impl_misleading.dd y = true ∧ y.length ≤ 1000) (hcnt : impl_misleading.bad m (s.data.toList, x.data.toList) = true → impl_misleading.cnt T m + (if m s.data.toList = none then 1 else 0) ≤ impl_misleading.cnt T (impl_misleading.upd m s.data.toList x.data.toList)) :
    Calls Tryz.prog 47 #[.string s, .string x, .pointer (some ⟨c, 0, none⟩)] W fun e w' => e = .returned (.bool (impl_misleading.bad m (s.data.toList, x.data.toList))) ∧ impl_misleading.Owns T w' b (if impl_misleading.bad m (s.data.toList, x.data.toList) = true then impl_misleading.upd m s.data.toList x.data.toList else m) ∧ W.grownBy w' (some b) := by
  have hsm : s.size ≤ maxLen := by unfold maxLen; omega
  have hxm : x.size ≤ maxLen := by unfold maxLen; omega
  have hl := ho.look_ok s hsm
  cases e : m s.data.toList with
  | none =>
    have hb : impl_misleading.bad m (s.data.toList, x.data.toList) = true := by unfold impl_misleading.bad; rw [e]
    rw [hb, if_pos rfl]
    rw [e] at hl
    have hl2 : (Instr.lookup 57 (.map (some b)) (.string s) true).run Tryz.prog W = .ok (.tuple #[.string ByteArray.empty, .bool false]) W := hl
    obtain ⟨w2, hup, ho2, hg2⟩ := ho.update hT s x hsm hxm (hcnt hb)
    have HO2 := Aside0.mk ho2
    have HG2 := Aside0.mk hg2
    clear hl ho ho2 hg2 hcnt hdm hb e
    go_enter Tryz.func47, Tryz.ntmps47
    go_wp2_with fail
    go_ret
    exact ⟨rfl, HO2.out, HG2.out⟩
  | some y =>
    obtain ⟨hdy, hly⟩ := hdm y e
    rw [e] at hl
    have hl2 : (Instr.lookup 57 (.map (some b)) (.string s) true).run Tryz.prog W = .ok (.tuple #[.string ⟨y.toArray⟩, .bool true]) W := hl
    have hf := impl_misleading.first_eq x ⟨y.toArray⟩ (by omega) (by show y.toArray.size ≤ _; rw [List.size_toArray]; omega) dx hdy
    have hyy : (⟨y.toArray⟩ : ByteArray).data.toList = y := rfl
    rw [hyy] at hf
    generalize (⟨y.toArray⟩ : ByteArray) = ys at *
    by_cases hlt : impl_misleading.code x.data.toList < impl_misleading.code y
    · have hb : impl_misleading.bad m (s.data.toList, x.data.toList) = true := by unfold impl_misleading.bad; rw [e]; exact decide_eq_true hlt
      rw [hb, if_pos rfl]
      rw [decide_eq_true hlt] at hf
      have HF := Aside0.mk hf
      have HO := Aside0.mk ho
      have HC := Aside0.mk (hcnt hb)
      have HCC := Aside0.mk hc
      have HE := Aside0.mk e
      clear hl ho hcnt hdm hb e hf hlt dx hdy hly hyy
      go_enter Tryz.func47, Tryz.ntmps47
      go_wp2_with (go_at_call 48; refine (impl_comesFirst.calls x ys true _ HF.out).mono ?_; rintro e w1 ⟨rfl, hb1⟩; have HG1 := Aside0.mk (impl_misleading.grown_ hb1 (some b)); have hc1 := pw_cell_below hb1 HCC.out; obtain ⟨w2, hup, ho2, hg2⟩ := (HO.out.kept (impl_misleading.grown_ hb1 none) (by simp)).update hT s x hsm hxm HC.out; have HO2 := Aside0.mk ho2; have HG2 := Aside0.mk hg2; clear ho2 hg2 hb1)
      go_ret
      exact ⟨rfl, HO2.out, HG1.out.trans HG2.out⟩
    · have hb : impl_misleading.bad m (s.data.toList, x.data.toList) = false := by unfold impl_misleading.bad; rw [e]; exact decide_eq_false hlt
      rw [hb, if_neg (by simp)]
      rw [decide_eq_false hlt] at hf
      have HF := Aside0.mk hf
      have HO := Aside0.mk ho
      clear hl ho hcnt hdm hb e hf hlt dx hdy hly hyy
      go_enter Tryz.func47, Tryz.ntmps47
      go_wp2_with (go_at_call 48; refine (impl_comesFirst.calls x ys false _ HF.out).mono ?_; rintro e w1 ⟨rfl, hb1⟩; have HG1 := Aside0.mk (impl_misleading.grown_ hb1 (some b)); have HO1 := Aside0.mk (HO.out.kept (impl_misleading.grown_ hb1 none) (by simp)); clear hb1)
      go_ret
      exact ⟨rfl, HO1.out, HG1.out⟩
theorem impl_misleading.cell_grown {w w' : World} {row : Option Nat} (hg : w.grownBy w' row) {a : Addr} {v : Value} (h : w.cell? a = some v) (hne : some a.block ≠ row) : w'.cell? a = some v := by
  have hlt : a.block < w.heap.size := World.block_lt_of_cell? w _ h
  unfold World.cell? at *
  rw [hg.block _ hlt hne]; exact h
theorem impl_misleading.cells_ {w : World} {A : Option Addr} {l : List ByteArray} (hr : Kd.C Kd.string w A l.length l) (hl : 0 < l.length) : ∃ p q, A = some ⟨p, q, none⟩ ∧ ∀ j (hj : j < l.length), w.cell? ⟨p, q + j, none⟩ = some (.string l[j]) := by
  obtain ⟨ad, rfl, hcell⟩ := hr.2.2 hl
  obtain ⟨bk, o, el⟩ := ad
  have hcells : ∀ (j : Nat) x, l[j]? = some x → w.cell? (Addr.add ⟨bk, o, el⟩ j) = some (.string x) := by
    intro j x hx
    obtain ⟨c, hl, hK, hcs⟩ := hcell j x hx
    have hK' : c = [Value.string x] := hK
    subst hK'
    have := hcs 0 (.string x) rfl
    have e : j * Kd.sz Kd.string + 0 = j := by show j * 1 + 0 = j; omega
    rw [e] at this
    exact this
  have h0 := hcells 0 _ (List.getElem?_eq_getElem hl)
  have hel : el = none := by
    unfold World.cell? at h0
    cases hb : w.heap[bk]? with
    | none => simp [Addr.add, hb] at h0
    | some bl =>
      cases el with
      | none => rfl
      | some e => cases bl <;> simp [Addr.add, hb] at h0
  subst hel
  refine ⟨bk, o, rfl, fun j hj => ?_⟩
  have := hcells j _ (List.getElem?_eq_getElem hj)
  rw [show (Addr.add ⟨bk, o, none⟩ j) = ⟨bk, o + j, none⟩ from by unfold Addr.add; split <;> simp_all] at this
  exact this
/-- what lies where, while the texts are being reckoned -/
structure impl_misleading.St (T : List ByteArray) (w : World) (A : Option Addr) (c bm bc bx : Nat) (m : List UInt8 → Option (List UInt8)) (wr : World) : Prop where
  own : impl_misleading.Owns T wr bm m
  cm : wr.cell? ⟨bc, 0, none⟩ = some (.map (some bm))
  ct : wr.cell? ⟨bx, 0, none⟩ = some (.slice A T.length c)
  bel : Below w.heap.size w wr
  lom : w.heap.size ≤ bm
  nbc : bm ≠ bc
  nbx : bm ≠ bx
  good : impl_misleading.Good T m
theorem impl_misleading.St.kept {T : List ByteArray} {w : World} {A : Option Addr} {c bm bc bx : Nat} {m : List UInt8 → Option (List UInt8)} {wr wr' : World} (h : impl_misleading.St T w A c bm bc bx m wr) {row : Option Nat} (hg : wr.grownBy wr' row) (hr : ∀ k, row = some k → w.heap.size ≤ k ∧ k ≠ bm ∧ k ≠ bc ∧ k ≠ bx) : impl_misleading.St T w A c bm bc bx m wr' :=
  ⟨h.own.kept hg (fun e => (hr _ e.symm).2.1 rfl), impl_misleading.cell_grown hg h.cm (fun e => (hr _ e.symm).2.2.1 rfl), impl_misleading.cell_grown hg h.ct (fun e => (hr _ e.symm).2.2.2 rfl), pw_below_grown h.bel row h.bel.size hg (fun k hk => (hr k hk).1), h.lom, h.nbc, h.nbx, h.good⟩
theorem impl_misleading.St.below {T : List ByteArray} {w : World} {A : Option Addr} {c bm bc bx : Nat} {m : List UInt8 → Option (List UInt8)} {wr wr' : World} (h : impl_misleading.St T w A c bm bc bx m wr) (hb : Below wr.heap.size wr wr') : impl_misleading.St T w A c bm bc bx m wr' := h.kept (impl_misleading.grown_ hb none) (fun k hk => by cases hk)
theorem impl_misleading.St.put {T : List ByteArray} {w : World} {A : Option Addr} {c bm bc bx : Nat} {m m' : List UInt8 → Option (List UInt8)} {wr wr' : World} (h : impl_misleading.St T w A c bm bc bx m wr) (ho : impl_misleading.Owns T wr' bm m') (hg : wr.grownBy wr' (some bm)) (hm : impl_misleading.Good T m') : impl_misleading.St T w A c bm bc bx m' wr' :=
  ⟨ho, impl_misleading.cell_grown hg h.cm (fun e => h.nbc (Option.some.inj e).symm), impl_misleading.cell_grown hg h.ct (fun e => h.nbx (Option.some.inj e).symm), pw_below_grown h.bel _ h.bel.size hg (fun k hk => by cases hk; exact h.lom), h.lom, h.nbc, h.nbx, hm⟩
theorem impl_misleading.St.start {T : List ByteArray} {w : World} {A : Option Addr} {c : Nat} {o1 : Obj} {tm : TypeId} (hct : (w.alloc o1).cell? ⟨w.heap.size, 0, none⟩ = some (.slice A T.length c)) :
    impl_misleading.St T w A c (w.heap.size + 1) (w.heap.size + 1 + 1) w.heap.size (fun _ => none) (((w.alloc o1).alloc (.map #[] 0)).alloc (.cells #[.map (some (w.heap.size + 1))] tm)) := by
  have s1 : (w.alloc o1).heap.size = w.heap.size + 1 := by simp
  have s2 : ((w.alloc o1).alloc (.map #[] 0)).heap.size = w.heap.size + 1 + 1 := by simp
  have h1 := impl_misleading.Owns.made T (w.alloc o1)
  rw [s1] at h1
  have h2 := h1.kept (World.grownBy_alloc ((w.alloc o1).alloc (.map #[] 0)) (.cells #[.map (some (w.heap.size + 1))] tm) none) (by simp)
  have h := heap_alloc_new ((w.alloc o1).alloc (.map #[] 0)) (.cells #[.map (some (w.heap.size + 1))] tm)
  rw [s2] at h
  refine ⟨h2, by rw [cell_of_row _ _ 0 _ _ (0, 0) h]; rfl, pw_cell_below (below_alloc (below_alloc (Below.refl _ _) _) _) hct, below_alloc (below_alloc (below_alloc (Below.refl _ _) _) _) _, by omega, by omega, by omega, impl_misleading.good_none T⟩
theorem impl_misleading.pre_ (b a : ByteArray) (hb : b.size ≤ 1000) (ha : a.size ≤ 1000) : strings_HasPrefix.f b a = some (a.data.toList.isPrefixOf b.data.toList) := by
  have eb : b.data.toList.length = b.size := Array.length_toList
  have ea : a.data.toList.length = a.size := Array.length_toList
  have hp : (a.data.toList.isPrefixOf b.data.toList) = decide (a.data.toList = b.data.toList.take a.size) := by
    rw [Bool.eq_iff_iff, List.isPrefixOf_iff_prefix, List.prefix_iff_eq_take, ea, decide_eq_true_eq]
  have ht : (b.extract 0 a.size).toList = b.data.toList.take a.size := by
    rw [Lib.toList_data, ByteArray.data_extract, Array.toList_extract, List.extract_eq_take_drop]
    simp
  simp only [strings_HasPrefix.f, stringslite_HasPrefix.f, Int.toNat_natCast]
  rw [hp]
  by_cases h : a.size ≤ b.size
  · rw [if_pos (by omega), if_pos (by omega), if_pos (by omega), ht, Lib.toList_data]
    simp only [Option.bind_some]
    congr 1
    rw [Bool.eq_iff_iff, beq_iff_eq, decide_eq_true_eq]
    exact eq_comm
  · rw [if_neg (by omega), decide_eq_false]
    · rfl
    · intro e
      have := congrArg List.length e
      rw [List.length_take] at this
      omega
theorem impl_misleading.cut_ (b : ByteArray) (n : Nat) : (b.extract n b.size).data.toList = b.data.toList.drop n := by
  have eb : b.data.toList.length = b.size := Array.length_toList
  rw [ByteArray.data_extract, Array.toList_extract, List.extract_eq_take_drop]
  rw [List.take_of_length_le]
  rw [List.length_drop]; omega
def impl_misleading.nxt (m : List UInt8 → Option (List UInt8)) (p : List UInt8 × List UInt8) : List UInt8 → Option (List UInt8) := if impl_misleading.bad m p = true then impl_misleading.upd m p.1 p.2 else m
theorem impl_misleading.bad_nxt (m : List UInt8 → Option (List UInt8)) (p : List UInt8 × List UInt8) : impl_misleading.bad (impl_misleading.nxt m p) p = false := by
  unfold impl_misleading.nxt
  by_cases h : impl_misleading.bad m p = true
  · rw [if_pos h]
    exact impl_misleading.bad_of (y := p.2) (by simp [impl_misleading.upd]) (Nat.le_refl _)
  · rw [if_neg h]; exact (Bool.not_eq_true _).mp h
theorem impl_misleading.nxt_good {T : List ByteArray} (hT : impl_misleading.ok T = true) {m : List UInt8 → Option (List UInt8)} (h : impl_misleading.Good T m) {p : List UInt8 × List UInt8} (hr : impl_misleading.Reach T p.1 p.2) (hl : p.2.length ≤ 10 + 5 * impl_misleading.cnt T m) :
    impl_misleading.Good T (impl_misleading.nxt m p) ∧ impl_misleading.Le m (impl_misleading.nxt m p) ∧ (impl_misleading.bad m p = true → impl_misleading.phi T (impl_misleading.nxt m p) < impl_misleading.phi T m) ∧ (impl_misleading.bad m p = false → impl_misleading.nxt m p = m) := by
  by_cases hb : impl_misleading.bad m p = true
  · obtain ⟨g1, g2, g3, _⟩ := impl_misleading.put_good hT h hr hl hb
    have e : impl_misleading.nxt m p = impl_misleading.upd m p.1 p.2 := if_pos hb
    rw [e]
    exact ⟨g1, g3, fun _ => g2, fun q => by rw [hb] at q; cases q⟩
  · have e : impl_misleading.nxt m p = m := if_neg hb
    rw [e]
    exact ⟨h, impl_misleading.Le.refl m, fun q => absurd q hb, fun _ => rfl⟩
theorem impl_misleading.sfx_short {T : List ByteArray} (hT : impl_misleading.ok T = true) {r : List UInt8} (h : r ∈ impl_misleading.sfx T) : r.length ≤ 5 := by
  obtain ⟨c, hc, n, rfl⟩ := impl_misleading.sfx_iff.1 h
  have := (impl_misleading.ok_mem hT hc).2.1
  rw [List.length_drop]; omega
theorem impl_misleading.put_at {T : List ByteArray} (hT : impl_misleading.ok T = true) {w : World} {A : Option Addr} {c bm bc bx : Nat} {m : List UInt8 → Option (List UInt8)} {wr : World} (S : impl_misleading.St T w A c bm bc bx m wr) (s x : ByteArray) {p : List UInt8 × List UInt8} (hp : p = (s.data.toList, x.data.toList)) (hr : impl_misleading.Reach T p.1 p.2) (hl : p.2.length ≤ 10 + 5 * impl_misleading.cnt T m) :
    Calls Tryz.prog 47 #[.string s, .string x, .pointer (some ⟨bc, 0, none⟩)] wr fun e w' => e = .returned (.bool (impl_misleading.bad m p)) ∧ Aside0 (impl_misleading.St T w A c bm bc bx (impl_misleading.nxt m p) w') ∧ Aside0 (wr.grownBy w' (some bm)) := by
  subst hp
  have es : s.data.toList.length = s.size := Array.length_toList
  have ex : x.data.toList.length = x.size := Array.length_toList
  obtain ⟨k1, k2⟩ := impl_misleading.reach_ok hT hr
  have k3 := impl_misleading.sfx_short hT k1
  have k4 := impl_misleading.cnt_le hT m
  simp only at k2 k3 hl
  refine (impl_misleading.put hT bm bc m wr S.own S.cm S.nbc s x (by omega) (by omega) k2 (fun y hy => ⟨(impl_misleading.reach_ok hT (S.good.sound _ _ hy)).2, by have := S.good.len _ _ hy; omega⟩) (fun hb => (impl_misleading.put_good hT S.good hr hl hb).2.2.2)).mono ?_
  rintro e w' ⟨rfl, ho, hg⟩
  exact ⟨rfl, ⟨S.put ho hg (impl_misleading.nxt_good hT S.good hr hl).1⟩, ⟨hg⟩⟩
theorem impl_misleading.initAt_some {T : List ByteArray} {i j : Nat} {a b : ByteArray} (ha : T.getD i ByteArray.empty = a) (hb : T.getD j ByteArray.empty = b) (hij : i ≠ j) (hp : a.data.toList.isPrefixOf b.data.toList = true) : impl_misleading.initAt T i j = some (b.data.toList.drop a.data.toList.length, b.data.toList) := by
  unfold impl_misleading.initAt
  rw [ha, hb, if_pos ⟨hij, hp⟩]
theorem impl_misleading.initAt_none {T : List ByteArray} {i j : Nat} {a b : ByteArray} (ha : T.getD i ByteArray.empty = a) (hb : T.getD j ByteArray.empty = b) (hp : i = j ∨ a.data.toList.isPrefixOf b.data.toList = false) : impl_misleading.initAt T i j = none := by
  unfold impl_misleading.initAt
  rw [ha, hb, if_neg]
  rintro ⟨h1, h2⟩
  rcases hp with h | h
  · exact h1 h
  · rw [h] at h2; cases h2
/-- the loop that gathers the rests -/
structure impl_misleading.Rg (T : List ByteArray) (w : World) (A : Option Addr) (c bm bc bx : Nat) (m : List UInt8 → Option (List UInt8)) (B r : Nat) (D : DataW Unit) (left : Lit → Bool) (cnt : Nat) (v : Value) (xs : List ByteArray) (wr : World) : Prop where
  st : impl_misleading.St T w A c bm bc bx m wr
  rg : wr.ranges Tryz.prog 9 (plainElem Tryz.prog 9) bm r 60 D left cnt
  row : wr.ownsRow B 9 1 v xs.length (xs.map Value.string)
  lo : w.heap.size ≤ B
  lm : bm < B
  lc : bc < B
  lx : bx < B
  lr : B ≤ r
  len : xs.length + cnt ≤ 60
  has : ∀ l, Maps.has D (.string l) = (m l).isSome
  sub : ∀ kl, left kl = true → Maps.has D kl = true
  all : ∀ l, (m l).isSome = true → left (.string l) = true ∨ ∃ s ∈ xs, s.data.toList = l
  mem : ∀ s ∈ xs, (m s.data.toList).isSome = true
theorem impl_misleading.iter_ne {w : World} {P : Program} {k : TypeId} {R : Value → Option (DataW Unit × List MemPlace)} {b r n : Nat} {D : DataW Unit} {left : Lit → Bool} {cnt : Nat} (h : w.ranges P k R b r n D left cnt) {base : Nat} {e : TypeId} {size q : Nat} {v : Value} {xs : List Value} (ho : w.ownsRow base e size v q xs) : some r ≠ v.ownBlock := by
  obtain ⟨es, clock, since, seen, c0, _, _, _, _, hr, _⟩ := h
  rcases ho.2 with ⟨rfl, _⟩ | ⟨g, cap, cur, rfl, _, hg, _⟩
  · simp [Value.ownBlock]
  · intro e
    obtain rfl := Option.some.inj e
    rw [hg] at hr
    cases hr
theorem impl_misleading.own_lo {w : World} {base : Nat} {e : TypeId} {size q : Nat} {v : Value} {xs : List Value} (ho : w.ownsRow base e size v q xs) {k : Nat} (hk : v.ownBlock = some k) : base ≤ k := (ho.lt k hk).1
theorem impl_misleading.Rg.next {T : List ByteArray} {w : World} {A : Option Addr} {c bm bc bx : Nat} {m : List UInt8 → Option (List UInt8)} {B r : Nat} {D : DataW Unit} {left left' : Lit → Bool} {cnt cnt' : Nat} {v : Value} {xs : List ByteArray} {wr w' : World} (h : impl_misleading.Rg T w A c bm bc bx m B r D left cnt v xs wr)
    (hrg : w'.ranges Tryz.prog 9 (plainElem Tryz.prog 9) bm r 60 D left' cnt') (hg : wr.grownBy w' (some r)) : impl_misleading.St T w A c bm bc bx m w' ∧ w'.ownsRow B 9 1 v xs.length (xs.map Value.string) := by
  have l1 := h.lo
  have l2 := h.lm
  have l3 := h.lc
  have l4 := h.lx
  have l5 := h.lr
  have hne := impl_misleading.iter_ne h.rg h.row
  exact ⟨h.st.kept hg (fun k hk => by cases hk; refine ⟨?_, ?_, ?_, ?_⟩ <;> omega), own_move h.row fun k hk => hg.block k (h.row.lt k hk).2 (fun e => hne (by rw [hk, e]))⟩
theorem impl_misleading.Rg.push {T : List ByteArray} {w : World} {A : Option Addr} {c bm bc bx : Nat} {m : List UInt8 → Option (List UInt8)} {B r : Nat} {D : DataW Unit} {left left' : Lit → Bool} {cnt cnt' : Nat} {v v' : Value} {xs : List ByteArray} {wr w' w4 : World} {o : Obj} (h : impl_misleading.Rg T w A c bm bc bx m B r D left cnt v xs wr) (x : ByteArray)
    (hrg : w'.ranges Tryz.prog 9 (plainElem Tryz.prog 9) bm r 60 D left' cnt') (hg : wr.grownBy w' (some r)) (hlt : cnt' < cnt) (hlx : left (.string x.data.toList) = true) (hl' : left' = fun z => left z && !z.sameKey (.string x.data.toList))
    (ho : w4.ownsRow B 9 1 v' (xs.length + 1) (xs.map Value.string ++ [.string x])) (hg4 : (w'.alloc o).grownBy w4 v.ownBlock) : impl_misleading.Rg T w A c bm bc bx m B r D left' cnt' v' (xs ++ [x]) w4 := by
  obtain ⟨s1, r1⟩ := h.next hrg hg
  have l1 := h.lo
  have l2 := h.lm
  have l3 := h.lc
  have l4 := h.lx
  have l5 := h.lr
  have l6 := h.len
  have hlo : ∀ k, v.ownBlock = some k → B ≤ k := fun k hk => impl_misleading.own_lo h.row hk
  have hne := impl_misleading.iter_ne hrg r1
  have ha : w'.grownBy (w'.alloc o) none := World.grownBy_alloc _ _ _
  refine ⟨(s1.kept ha (fun k hk => by cases hk)).kept hg4 (fun k hk => by have := hlo k hk; refine ⟨?_, ?_, ?_, ?_⟩ <;> omega), (hrg.kept ha (by simp) (by simp)).kept hg4 (fun e => by have := hlo _ e.symm; omega) hne, ?_, l1, l2, l3, l4, l5, by rw [List.length_append, List.length_singleton]; omega, h.has, fun kl hk => ?_, fun l hl => ?_, fun s hs => ?_⟩
  · rw [List.length_append, List.length_singleton, List.map_append]; exact ho
  · rw [hl'] at hk
    simp only [Bool.and_eq_true] at hk
    exact h.sub kl hk.1
  · rcases h.all l hl with h1 | ⟨s, hs, e⟩
    · by_cases e : l = x.data.toList
      · exact Or.inr ⟨x, by simp, e.symm⟩
      · refine Or.inl ?_
        rw [hl']
        simp only [h1, Bool.true_and]
        rw [Maps.sameKey_ne (fun q => e (Lit.string.inj q))]; rfl
    · exact Or.inr ⟨s, List.mem_append_left _ hs, e⟩
  · rcases List.mem_append.1 hs with hs | hs
    · exact h.mem s hs
    · obtain rfl := List.mem_singleton.1 hs
      rw [← h.has]; exact h.sub _ hlx
theorem impl_misleading.Rg.start {T : List ByteArray} (hT : impl_misleading.ok T = true) {w : World} {A : Option Addr} {c bm bc bx : Nat} {m : List UInt8 → Option (List UInt8)} {wr w0 : World} {D : DataW Unit} (S : impl_misleading.St T w A c bm bc bx m wr) (hbx : bx < wr.heap.size) (d1 : ∀ r, Maps.has D (.string r) = (m r).isSome) (d3 : Maps.size D ≤ impl_misleading.cnt T m)
    (hrg : w0.ranges Tryz.prog 9 (plainElem Tryz.prog 9) bm (wr.alloc (.cells #[] 9)).heap.size 60 D (Maps.has D) (Maps.size D)) (hg : (wr.alloc (.cells #[] 9)).grownBy w0 none) :
    impl_misleading.Rg T w A c bm bc bx m wr.heap.size (wr.heap.size + 1) D (Maps.has D) (Maps.size D) (.slice (some ⟨wr.heap.size, 0, none⟩) 0 0) [] w0 := by
  have s1 : (wr.alloc (.cells #[] 9)).heap.size = wr.heap.size + 1 := by simp
  rw [s1] at hrg
  have hc := World.block_lt_of_cell? wr _ S.cm
  have h60 := impl_misleading.cnt_le hT m
  have hnew := heap_alloc_new wr (.cells #[] 9)
  refine ⟨(S.kept (World.grownBy_alloc _ _ none) (fun k hk => by cases hk)).kept hg (fun k hk => by cases hk), hrg, ⟨rfl, Or.inr ⟨wr.heap.size, 0, #[], rfl, Nat.le_refl _, ?_, Nat.le_refl _, by unfold maxLen; omega, rfl, rfl⟩⟩, S.bel.size, S.own.lt, hc, hbx, by omega, by show 0 + _ ≤ 60; omega, d1, fun _ h => h, fun l hl => Or.inl (by rw [d1]; exact hl), fun s hs => by cases hs⟩
  exact (hg.block _ (by rw [s1]; omega) (by simp)).trans hnew
theorem impl_misleading.Rg.form {T : List ByteArray} {w : World} {A : Option Addr} {c bm bc bx : Nat} {m : List UInt8 → Option (List UInt8)} {B r : Nat} {D : DataW Unit} {left : Lit → Bool} {cnt : Nat} {v : Value} {xs : List ByteArray} {wr : World} (h : impl_misleading.Rg T w A c bm bc bx m B r D left cnt v xs wr) :
    ∃ (ao : Option Addr) (cap : Nat), v = .slice ao xs.length cap ∧ ∀ j (hj : j < xs.length), ∃ g, ao = some ⟨g, 0, none⟩ ∧ g ≠ bm ∧ wr.cell? ⟨g, j, none⟩ = some (.string xs[j]) := by
  have hr := h.row
  rcases h.row.2 with ⟨e, e0⟩ | ⟨g, cap, cur, e, hlo, hg, _⟩
  · exact ⟨none, 0, by rw [e, e0], fun j hj => by omega⟩
  · refine ⟨some ⟨g, 0, none⟩, cap, e, fun j hj => ⟨g, rfl, by have := h.lm; omega, ?_⟩⟩
    subst e
    rw [World.ownsRow.cellAt hr j (by omega)]
    simp [hj]
theorem impl_misleading.key_inv {key : Value} {kl : Lit} (h : keyOf Tryz.prog 9 key = some kl) : ∃ x : ByteArray, key = .string x := by
  cases key <;> simp [keyOf, Tryz.underlying9, mapKey] at h
  exact ⟨_, rfl⟩
theorem impl_misleading.val_inv {v : Value} {y : DataW Unit × List MemPlace} (h : plainElem (H := Unit) Tryz.prog 9 v = some y) : ∃ x : ByteArray, v = .string x := by
  obtain ⟨s, rfl, _⟩ := plainElem_string_inv Tryz.underlying9 h
  exact ⟨s, rfl⟩
theorem impl_misleading.key_str {x : ByteArray} {kl : Lit} (h : keyOf Tryz.prog 9 (.string x) = some kl) : kl = .string x.data.toList ∧ x.size ≤ maxLen := by
  simp [keyOf, Tryz.underlying9, mapKey] at h
  exact ⟨h.2.symm, h.1⟩
theorem impl_misleading.infoS : ∃ i, Tryz.prog.info? 9 = some i ∧ i.zero = some (.string ⟨#[]⟩) ∧ i.size = 1 ∧ i.bytes = 16 := by
  have h : (Tryz.prog.info? 9).map (fun i => (i.zero, i.size, i.bytes)) = some (some (.string ⟨#[]⟩), 1, 16) := by kernel_rfl
  obtain ⟨i, hi, he⟩ := Option.map_eq_some_iff.1 h
  simp only [Prod.mk.injEq] at he
  exact ⟨i, hi, he⟩
theorem impl_misleading.src1 {w : World} {s : ByteArray} (j : Nat) (u : Value) (hu : [Value.string s][j]? = some u) (a : Addr) (ha : w.cell? a = some (.string s)) : w.cell? (a.add j) = some u := by
  cases j with
  | zero =>
    obtain rfl : Value.string s = u := by simpa using hu
    exact ha
  | succ j => simp at hu
theorem impl_misleading.new1 (w : World) (v : Value) (t : TypeId) : (w.alloc (.cells #[v] t)).cell? ⟨w.heap.size, 0, none⟩ = some v := by
  rw [cell_of_row _ _ 0 _ _ (0, 0) (heap_alloc_new w _)]; rfl
def impl_misleading.Rows (xs : List ByteArray) (ao : Option Addr) (bm : Nat) (wr : World) : Prop := ∀ j (hj : j < xs.length), ∃ g, ao = some ⟨g, 0, none⟩ ∧ g ≠ bm ∧ wr.cell? ⟨g, j, none⟩ = some (.string xs[j])
theorem impl_misleading.Rows.kept {xs : List ByteArray} {ao : Option Addr} {bm : Nat} {wr w' : World} (h : impl_misleading.Rows xs ao bm wr) (hg : wr.grownBy w' (some bm)) : impl_misleading.Rows xs ao bm w' := fun j hj => by
  obtain ⟨g, e, hne, hc⟩ := h j hj
  exact ⟨g, e, hne, impl_misleading.cell_grown hg hc (fun e => hne (Option.some.inj e))⟩
theorem impl_misleading.Rows.below {xs : List ByteArray} {ao : Option Addr} {bm : Nat} {wr w' : World} (h : impl_misleading.Rows xs ao bm wr) (hb : Below wr.heap.size wr w') : impl_misleading.Rows xs ao bm w' := h.kept (impl_misleading.grown_ hb (some bm))
/-- what a round has done so far: the candidates in Q have been put -/
def impl_misleading.PR (T : List ByteArray) (m1 m2 : List UInt8 → Option (List UInt8)) (again : Bool) (Q : List UInt8 × List UInt8 → Prop) : Prop := impl_misleading.Le m1 m2 ∧ impl_misleading.phi T m2 ≤ impl_misleading.phi T m1 ∧ (again = true → impl_misleading.phi T m2 < impl_misleading.phi T m1) ∧ (again = false → m2 = m1 ∧ ∀ p, Q p → impl_misleading.bad m1 p = false)
theorem impl_misleading.PR.weak {T : List ByteArray} {m1 m2 : List UInt8 → Option (List UInt8)} {again : Bool} {Q Q' : List UInt8 × List UInt8 → Prop} (h : impl_misleading.PR T m1 m2 again Q) (hq : ∀ p, Q' p → Q p) : impl_misleading.PR T m1 m2 again Q' :=
  ⟨h.1, h.2.1, h.2.2.1, fun e => ⟨(h.2.2.2 e).1, fun p hp => (h.2.2.2 e).2 p (hq p hp)⟩⟩
theorem impl_misleading.PR.start (T : List ByteArray) (m : List UInt8 → Option (List UInt8)) (Q : List UInt8 × List UInt8 → Prop) (hq : ∀ p, ¬ Q p) : impl_misleading.PR T m m false Q := ⟨impl_misleading.Le.refl m, Nat.le_refl _, fun h => (by cases h), fun _ => ⟨rfl, fun p hp => absurd hp (hq p)⟩⟩
theorem impl_misleading.PR.put {T : List ByteArray} (hT : impl_misleading.ok T = true) {m1 m2 : List UInt8 → Option (List UInt8)} {again : Bool} {Q Q' : List UInt8 × List UInt8 → Prop} (h : impl_misleading.PR T m1 m2 again Q) (hg : impl_misleading.Good T m2) {r x c : List UInt8} {p : List UInt8 × List UInt8} (hx : m2 r = some x) (he : impl_misleading.ext r x c = some p) (hr : impl_misleading.Reach T p.1 p.2) (hl : p.2.length ≤ 10 + 5 * impl_misleading.cnt T m2)
    (hq : ∀ q, Q' q → Q q ∨ ∃ y, m1 r = some y ∧ impl_misleading.ext r y c = some q) : impl_misleading.PR T m1 (impl_misleading.nxt m2 p) (impl_misleading.bad m2 p || again) Q' := by
  obtain ⟨_, g2, g3, g4⟩ := impl_misleading.nxt_good hT hg hr hl
  obtain ⟨h1, h2, h3, h4⟩ := h
  cases hb : impl_misleading.bad m2 p with
  | true =>
    have := g3 hb
    exact ⟨h1.trans g2, by omega, fun _ => by omega, fun e => by cases e⟩
  | false =>
    rw [g4 hb, Bool.false_or]
    refine ⟨h1, h2, h3, fun e => ⟨(h4 e).1, fun q hQ => ?_⟩⟩
    rcases hq q hQ with hq1 | ⟨y, hy, hye⟩
    · exact (h4 e).2 q hq1
    · have e1 := (h4 e).1
      subst e1
      rw [hx] at hy
      obtain rfl := Option.some.inj hy
      rw [he] at hye
      obtain rfl := Option.some.inj hye
      exact hb
theorem impl_misleading.PR.skip {T : List ByteArray} {m1 m2 : List UInt8 → Option (List UInt8)} {again : Bool} {Q Q' : List UInt8 × List UInt8 → Prop} (h : impl_misleading.PR T m1 m2 again Q) {r c : List UInt8} (h1 : c.isPrefixOf r = false) (h2 : r.isPrefixOf c = false)
    (hq : ∀ q, Q' q → Q q ∨ ∃ y, m1 r = some y ∧ impl_misleading.ext r y c = some q) : impl_misleading.PR T m1 m2 again Q' := h.weak fun q hQ => by
  rcases hq q hQ with hq1 | ⟨y, _, hye⟩
  · exact hq1
  · unfold impl_misleading.ext at hye
    rw [h1, h2] at hye
    simp at hye
/-- of the first k rests all candidates -/
def impl_misleading.Q8 (T xs : List ByteArray) (m1 : List UInt8 → Option (List UInt8)) (k : Nat) (p : List UInt8 × List UInt8) : Prop := ∃ k', k' < k ∧ ∃ s, xs[k']? = some s ∧ s.data.toList ≠ [] ∧ ∃ c ∈ T, ∃ x, m1 s.data.toList = some x ∧ impl_misleading.ext s.data.toList x c.data.toList = some p
/-- .. and of the next rest those of the first j marks -/
def impl_misleading.Q10 (T xs : List ByteArray) (m1 : List UInt8 → Option (List UInt8)) (k : Nat) (r : List UInt8) (j : Nat) (p : List UInt8 × List UInt8) : Prop := impl_misleading.Q8 T xs m1 k p ∨ ∃ j', j' < j ∧ ∃ x, m1 r = some x ∧ impl_misleading.ext r x (T.getD j' ByteArray.empty).data.toList = some p
theorem impl_misleading.Q8_zero {T xs : List ByteArray} {m1 : List UInt8 → Option (List UInt8)} (p : List UInt8 × List UInt8) : ¬ impl_misleading.Q8 T xs m1 0 p := by
  rintro ⟨k', h, _⟩; omega
theorem impl_misleading.Q8_skip {T xs : List ByteArray} {m1 : List UInt8 → Option (List UInt8)} {k : Nat} {s : ByteArray} (hs : xs[k]? = some s) (h0 : s.data.toList = []) (p : List UInt8 × List UInt8) (h : impl_misleading.Q8 T xs m1 (k + 1) p) : impl_misleading.Q8 T xs m1 k p := by
  obtain ⟨k', h1, s', h2, h3, h4⟩ := h
  by_cases e : k' = k
  · subst e
    rw [hs] at h2
    obtain rfl := Option.some.inj h2
    exact absurd h0 h3
  · exact ⟨k', by omega, s', h2, h3, h4⟩
theorem impl_misleading.Q8_next {T xs : List ByteArray} {m1 : List UInt8 → Option (List UInt8)} {k : Nat} {s : ByteArray} (hs : xs[k]? = some s) (p : List UInt8 × List UInt8) (h : impl_misleading.Q8 T xs m1 (k + 1) p) : impl_misleading.Q10 T xs m1 k s.data.toList T.length p := by
  obtain ⟨k', h1, s', h2, h3, c, hc, x, hx, he⟩ := h
  by_cases e : k' = k
  · subst e
    rw [hs] at h2
    obtain rfl := Option.some.inj h2
    obtain ⟨j', hj', e'⟩ := List.getElem_of_mem hc
    exact Or.inr ⟨j', hj', x, hx, by rw [List.getD_eq_getElem?_getD, List.getElem?_eq_getElem hj', e']; exact he⟩
  · exact Or.inl ⟨k', by omega, s', h2, h3, c, hc, x, hx, he⟩
theorem impl_misleading.Q10_next {T xs : List ByteArray} {m1 : List UInt8 → Option (List UInt8)} {k j : Nat} {r : List UInt8} {c : ByteArray} (hc : T.getD j ByteArray.empty = c) (p : List UInt8 × List UInt8) (h : impl_misleading.Q10 T xs m1 k r (j + 1) p) : impl_misleading.Q10 T xs m1 k r j p ∨ ∃ y, m1 r = some y ∧ impl_misleading.ext r y c.data.toList = some p := by
  rcases h with h | ⟨j', h1, x, hx, he⟩
  · exact Or.inl (Or.inl h)
  · by_cases e : j' = j
    · subst e; rw [hc] at he; exact Or.inr ⟨x, hx, he⟩
    · exact Or.inl (Or.inr ⟨j', by omega, x, hx, he⟩)
theorem impl_misleading.closed_round {T xs : List ByteArray} {m1 m2 : List UInt8 → Option (List UInt8)} (h : impl_misleading.PR T m1 m2 false (impl_misleading.Q8 T xs m1 xs.length)) (hi : ∀ p ∈ impl_misleading.inits T, impl_misleading.bad m1 p = false) (hall : ∀ l, (m1 l).isSome = true → ∃ s ∈ xs, s.data.toList = l) : impl_misleading.Closed T m2 := by
  obtain ⟨e, hq⟩ := h.2.2.2 rfl
  rw [e]
  refine ⟨hi, fun r x c p hx hr hc he => hq p ?_⟩
  obtain ⟨s, hs, rfl⟩ := hall r (by rw [hx]; rfl)
  obtain ⟨k', hk', e'⟩ := List.getElem_of_mem hs
  exact ⟨k', hk', s, by rw [List.getElem?_eq_getElem hk', e'], hr, c, hc, x, hx, he⟩
/-- the closure's call in a region that draws its order -/
theorem impl_misleading.goesB {ops : Array Oper} {Q : Exit → Act → World → Prop} {oi : Oper} {N : Option Tmp} {a : Act} {w : World} {K : Act → World → Prop} (hg : oi.guard = none) (hN : oi.dst = N) (x y z : Operand) (ts : Array TypeId) (hop : oi.op = .call { callee := .value x, args := #[y, z], argTypes := ts }) (bc : Nat) (hx : a.eval x = .func (.func 47) #[] #[.pointer (some ⟨bc, 0, none⟩)]) (s t : ByteArray) (hy : a.eval y = .string s) (hz : a.eval z = .string t)
    (h : Calls Tryz.prog 47 #[.string s, .string t, .pointer (some ⟨bc, 0, none⟩)] w fun e w' => ∃ v, e = .returned v ∧ K (a.put N v) w') : if Region.wanted oi (yielded ops a.tmps) = true then Oper.wp Tryz.prog oi a w K Q else K (a.put N undef) w := by
  have hw : Region.wanted oi (yielded ops a.tmps) = true := by simp [Region.wanted, hg]
  refine call_ 47 #[.string s, .string t, .pointer (some ⟨bc, 0, none⟩)] hw hN ?_ h
  have he := enters_ (P := Tryz.prog) Tryz.func47 (by kernel_rfl) (by kernel_rfl) #[.string s, .string t, .pointer (some ⟨bc, 0, none⟩)] w
  unfold execOp
  simp [hop, resolve, Deferred.ofValue, invoke, hx, hy, hz, he]
theorem impl_misleading.full_ (s : ByteArray) (h : s.data.toList ≠ []) : s.toList.isEmpty = false := by
  rw [Lib.toList_data]
  cases e : s.data.toList with
  | nil => exact absurd e h
  | cons c l => rfl
set_option maxRecDepth 100000 in
set_option maxHeartbeats 16000000 in
theorem impl_misleading.calls (A0_0 : Option Addr) (c0_0 : Nat) (l0_0 : List ByteArray) (r0 : ByteArray) (r1 : Bool) (w : World) (hr0_0 : Kd.C Kd.string w A0_0 l0_0.length l0_0) (hc0_0 : l0_0.length ≤ c0_0) (h : impl_misleading.f l0_0 = some (r0, r1)) :
    Calls Tryz.prog 25 #[.agg #[.slice A0_0 l0_0.length c0_0]] w fun e w' => e = .returned (.tuple #[.string r0, .bool r1]) ∧ Below w.heap.size w w' := by
  have hT := impl_misleading.f_valid h
  have hpos := impl_misleading.ok_pos hT
  have hlen := impl_misleading.ok_len hT
  have HT := Aside0.mk hT
  have HF := Aside0.mk h
  obtain ⟨p0, q0, rfl, hpq⟩ := impl_misleading.cells_ hr0_0 hpos
  have HPQ := Aside0.mk hpq
  clear hpq hr0_0 h hT
  have hmm := @run_makeMap Tryz.prog
  have hmf : ∀ (fn : Fn) (first cap : Array Value) (w : World), (Instr.makeFunc fn first cap).run Tryz.prog w = .ok (.func fn first cap) w := fun _ _ _ _ => rfl
  go_enter Tryz.func25, Tryz.ntmps25
  go_upto_region 3 with fail
  have S0 := Aside0.mk (impl_misleading.St.start (T := l0_0) (w := w) (A := some ⟨p0, q0, none⟩) (c := c0_0) (o1 := .cells #[.slice (some ⟨p0, q0, none⟩) l0_0.length c0_0] 28) (tm := 57) (by simp))
  generalize (((w.alloc (.cells #[.slice (some ⟨p0, q0, none⟩) l0_0.length c0_0] 28)).alloc (.map #[] 0)).alloc (.cells #[.map (some (w.heap.size + 1))] 57)) = w0 at S0 ⊢
  generalize w.heap.size + 1 + 1 = bc at S0 ⊢
  generalize w.heap.size + 1 = bm at S0 ⊢
  have ct := S0.out.ct
  clear hmm hmf
  go_wp2_with fail
  clear ct
  go_loopg [24] l0_0.length (fun gg v24 w' => ∃ (i : Nat) (m : List UInt8 → Option (List UInt8)), v24 = .int .i64 (i : Int) ∧ i ≤ l0_0.length ∧ l0_0.length - i ≤ gg ∧ Aside0 (impl_misleading.St l0_0 w (some ⟨p0, q0, none⟩) c0_0 bm bc w.heap.size m w') ∧ Aside0 (∀ i' j p, i' < i → j < l0_0.length → impl_misleading.initAt l0_0 i' j = some p → impl_misleading.bad m p = false))
  case atStart => exact ⟨0, _, rfl, Nat.zero_le _, Nat.le_refl _, S0, ⟨fun _ _ _ h => by omega⟩⟩
  case round =>
    clear S0
    obtain ⟨i, m, rfl, hi, hgg, S, DN⟩ := hrel
    by_cases hlt : i < l0_0.length
    · have hltz : (i : Int) < (l0_0.length : Int) := by omega
      have i0 : (0 : Int) ≤ (i : Int) := by omega
      have ct := S.out.ct
      have hci := pw_cell_below S.out.bel (HPQ.out i hlt)
      obtain ⟨a, ha⟩ : ∃ a, l0_0[i] = a := ⟨_, rfl⟩
      rw [ha] at hci
      have HA := Aside0.mk (show l0_0.getD i ByteArray.empty = a ∧ a ∈ l0_0 from ⟨by rw [List.getD_eq_getElem?_getD, List.getElem?_eq_getElem hlt, ha]; rfl, by rw [← ha]; exact List.getElem_mem hlt⟩)
      clear ha
      go_wp2_with fail
      clear ct hci
      go_loopg [32] l0_0.length (fun gg v32 w' => ∃ (j : Nat) (m2 : List UInt8 → Option (List UInt8)), v32 = .int .i64 (j : Int) ∧ j ≤ l0_0.length ∧ l0_0.length - j ≤ gg ∧ Aside0 (impl_misleading.St l0_0 w (some ⟨p0, q0, none⟩) c0_0 bm bc w.heap.size m2 w') ∧ Aside0 (impl_misleading.Le m m2 ∧ ∀ j' p, j' < j → impl_misleading.initAt l0_0 i j' = some p → impl_misleading.bad m2 p = false))
      case atStart => exact ⟨0, m, rfl, Nat.zero_le _, Nat.le_refl _, S, ⟨impl_misleading.Le.refl m, fun _ _ h => by omega⟩⟩
      case round =>
        clear S
        obtain ⟨j, m2, rfl, hj, hgg2, S, D2⟩ := hrel
        by_cases hlt2 : j < l0_0.length
        · have hltz2 : (j : Int) < (l0_0.length : Int) := by omega
          have j0 : (0 : Int) ≤ (j : Int) := by omega
          have hcj := pw_cell_below S.out.bel (HPQ.out j hlt2)
          obtain ⟨b, hb⟩ : ∃ b, l0_0[j] = b := ⟨_, rfl⟩
          rw [hb] at hcj
          have HB := Aside0.mk (show l0_0.getD j ByteArray.empty = b ∧ b ∈ l0_0 from ⟨by rw [List.getD_eq_getElem?_getD, List.getElem?_eq_getElem hlt2, hb]; rfl, by rw [← hb]; exact List.getElem_mem hlt2⟩)
          clear hb
          by_cases hij : i = j
          · subst hij
            have HN := Aside0.mk (impl_misleading.initAt_none HA.out.1 HB.out.1 (Or.inl rfl))
            go_wp2_with fail
            go_roundg (l0_0.length - (i + 1))
            case measure => omega
            case rel => exact ⟨i + 1, m2, by go_num, by omega, by omega, S, ⟨D2.out.1, fun j' p h1 h2 => by
              by_cases e : j' = i
              · subst e; rw [HN.out] at h2; cases h2
              · exact D2.out.2 j' p (by omega) h2⟩⟩
          · have hijz : ¬ ((i : Int) = (j : Int)) := by omega
            have hsa := (impl_misleading.ok_mem HT.out HA.out.2).2.1
            have hsb := (impl_misleading.ok_mem HT.out HB.out.2).2.1
            have esa : a.data.toList.length = a.size := Array.length_toList
            have esb : b.data.toList.length = b.size := Array.length_toList
            rw [esa] at hsa
            rw [esb] at hsb
            have hp := impl_misleading.pre_ b a (by omega) (by omega)
            cases hpf : a.data.toList.isPrefixOf b.data.toList with
            | false =>
              have HN := Aside0.mk (impl_misleading.initAt_none HA.out.1 HB.out.1 (Or.inr hpf))
              rw [hpf] at hp
              have HP := Aside0.mk hp
              clear hp hpf esa esb hsa hsb
              go_wp2_with (go_at_call 49; refine (strings_HasPrefix.calls b a false _ HP.out).mono ?_; rintro e w' ⟨rfl, ⟨nd, rfl⟩⟩)
              go_roundg (l0_0.length - (j + 1))
              case measure => omega
              case rel => exact ⟨j + 1, m2, by go_num, by omega, by omega, ⟨S.out.below (pw_below_drewN (Below.refl _ _) nd)⟩, ⟨D2.out.1, fun j' p h1 h2 => by
                by_cases e : j' = j
                · subst e; rw [HN.out] at h2; cases h2
                · exact D2.out.2 j' p (by omega) h2⟩⟩
            | true =>
              have HN := Aside0.mk (impl_misleading.initAt_some HA.out.1 HB.out.1 hij hpf)
              rw [hpf] at hp
              have HP := Aside0.mk hp
              have hle : a.size ≤ b.size := by
                have := (List.isPrefixOf_iff_prefix.1 hpf).length_le
                omega
              have hlez : (a.size : Int) ≤ (b.size : Int) := by omega
              have a0 : (0 : Int) ≤ (a.size : Int) := by omega
              have HR := Aside0.mk (show impl_misleading.Reach l0_0 (b.data.toList.drop a.data.toList.length) b.data.toList from impl_misleading.Reach.init (impl_misleading.init_iff.2 ⟨i, j, hlt, hlt2, HN.out⟩))
              have HL := Aside0.mk (show b.data.toList.length ≤ 10 + 5 * impl_misleading.cnt l0_0 m2 by omega)
              have HQ := Aside0.mk (fun nd => impl_misleading.put_at HT.out (S.out.below (pw_below_drewN (Below.refl _ _) nd)) (b.extract a.size b.size) b (p := (b.data.toList.drop a.data.toList.length, b.data.toList)) (by rw [impl_misleading.cut_, esa]) HR.out HL.out)
              clear hp hpf esa esb hsa hsb
              go_wp2_with (first | (go_at_call 49; refine (strings_HasPrefix.calls b a true _ HP.out).mono ?_; rintro e w' ⟨rfl, ⟨nd, rfl⟩⟩) | (go_at_call 47; refine (HQ.out nd).mono ?_; rintro e w2 ⟨rfl, S2, G2⟩))
              have hng := impl_misleading.nxt_good HT.out S.out.good (p := (b.data.toList.drop a.data.toList.length, b.data.toList)) HR.out HL.out
              have HNG := Aside0.mk hng
              clear hng
              go_roundg (l0_0.length - (j + 1))
              case measure => omega
              case rel => exact ⟨j + 1, _, by go_num, by omega, by omega, S2, ⟨D2.out.1.trans HNG.out.2.1, fun j' p h1 h2 => by
                by_cases e : j' = j
                · subst e
                  rw [HN.out] at h2
                  obtain rfl := Option.some.inj h2
                  exact impl_misleading.bad_nxt _ _
                · exact impl_misleading.bad_le HNG.out.2.1 (D2.out.2 j' p (by omega) h2)⟩⟩
        · have : j = l0_0.length := by omega
          subst this
          have hltz2 : ¬ ((l0_0.length : Int) < (l0_0.length : Int)) := by omega
          go_wp2_with fail
          go_roundg (l0_0.length - (i + 1))
          case measure => omega
          case rel => exact ⟨i + 1, m2, by go_num, by omega, by omega, S, ⟨fun i' j p h1 h2 h3 => by
            by_cases e : i' = i
            · subst e; exact D2.out.2 j p h2 h3
            · exact impl_misleading.bad_le D2.out.1 (DN.out i' j p (by omega) h2 h3)⟩⟩
    · have : i = l0_0.length := by omega
      subst this
      have hltz : ¬ ((l0_0.length : Int) < (l0_0.length : Int)) := by omega
      have DI := Aside0.mk (show ∀ p ∈ impl_misleading.inits l0_0, impl_misleading.bad m p = false from fun p hp => by
        obtain ⟨i, j, h1, h2, h3⟩ := impl_misleading.init_iff.1 hp
        exact DN.out i j p h1 h2 h3)
      clear DN hgg
      have hbx : w.heap.size < wr.heap.size := World.block_lt_of_cell? wr _ S.out.ct
      go_wp2_with fail
      go_loopg [10] (impl_misleading.phi l0_0 m + 1) (fun gg v10 w' => ∃ (again : Bool) (m1 : List UInt8 → Option (List UInt8)), v10 = .bool again ∧ impl_misleading.phi l0_0 m1 + (if again = true then 1 else 0) ≤ gg ∧ Aside0 (impl_misleading.St l0_0 w (some ⟨p0, q0, none⟩) c0_0 bm bc w.heap.size m1 w') ∧ Aside0 (∀ p ∈ impl_misleading.inits l0_0, impl_misleading.bad m1 p = false) ∧ Aside0 (again = false → impl_misleading.Closed l0_0 m1) ∧ w.heap.size < w'.heap.size)
      case atStart => exact ⟨true, m, rfl, Nat.le_refl _, S, DI, ⟨fun h => by cases h⟩, hbx⟩
      case round =>
        clear S DI hbx hltz hlt hi
        obtain ⟨again, m1, rfl, hgg, S, DI, DC, hbx⟩ := hrel
        cases again with
        | false =>
          have HCL := Aside0.mk (DC.out rfl)
          have hR := impl_misleading.f_is HF.out S.out.good.sound HCL.out
          have hlook := S.out.own.look_ok ⟨#[]⟩ (by decide)
          have cm := S.out.cm
          have e0 : (⟨#[]⟩ : ByteArray).data.toList = [] := rfl
          rw [e0] at hlook
          have HBEL := Aside0.mk S.out.bel
          unfold impl_misleading.out at hR
          cases hm : m1 [] with
          | some x =>
            rw [hm] at hR hlook
            obtain ⟨rfl, rfl⟩ := Prod.mk.inj hR
            have hlook2 : (Instr.lookup 57 (.map (some bm)) (.string ⟨#[]⟩) true).run Tryz.prog wr = .ok (.tuple #[.string ⟨x.toArray⟩, .bool true]) wr := hlook
            clear hlook hR
            go_wp2_with fail
            go_ret2
            exact ⟨rfl, HBEL.out⟩
          | none =>
            rw [hm] at hR hlook
            obtain ⟨rfl, rfl⟩ := Prod.mk.inj hR
            have hlook2 : (Instr.lookup 57 (.map (some bm)) (.string ⟨#[]⟩) true).run Tryz.prog wr = .ok (.tuple #[.string ⟨#[]⟩, .bool false]) wr := hlook
            clear hlook hR
            go_wp2_with fail
            go_ret2
            exact ⟨rfl, HBEL.out⟩
        | true =>
          obtain ⟨gq, rfl⟩ : ∃ gq, gq = gk := ⟨_, rfl⟩
          have hgg' : impl_misleading.phi l0_0 m1 + 1 ≤ gq := hgg
          clear hgg
          obtain ⟨wq, rfl⟩ : ∃ wq, wq = wr := ⟨_, rfl⟩
          obtain ⟨D, d0, d1, d2, d3⟩ := S.out.own
          have cm := S.out.cm
          have cm1 : (wq.alloc (.cells #[] 9)).cell? ⟨bc, 0, none⟩ = some (.map (some bm)) := pw_cell_below (below_alloc (Below.refl _ _) _) cm
          have D0 := Aside0.mk (d0.alloc (.cells #[] 9))
          have D1 := Aside0.mk d1
          have D2 := Aside0.mk d2
          have D3 := Aside0.mk d3
          clear d0 d1 d2 d3
          go_wp2_with (at_range; go_loud (refine wpList_range_own (H := Unit) (P := Tryz.prog) _ rfl (.tmp 56) 57 rfl 9 9 impl_misleading.law Tryz.underlying57 (plainElem Tryz.prog 9) bm 60 D rfl D0.out ?_; intro w1 hrg0 hg0 hs0; have RG := Aside0.mk (impl_misleading.Rg.start HT.out S.out hbx D1.out D3.out hrg0 hg0); clear hrg0 hg0 hs0))
          go_frame
          rw [show (wq.alloc (.cells #[] 9)).heap.size = wq.heap.size + 1 by simp]
          clear cm cm1 D0 D2 D3
          go_loopg [11] 60 (fun gg v11 w' => ∃ (left : Lit → Bool) (cnt : Nat) (xs : List ByteArray), cnt ≤ gg ∧ Aside0 (impl_misleading.Rg l0_0 w (some ⟨p0, q0, none⟩) c0_0 bm bc w.heap.size m1 wq.heap.size (wq.heap.size + 1) D left cnt v11 xs w'))
          case atStart => exact ⟨_, _, [], by have := RG.out.len; simpa using this, RG⟩
          case round =>
            clear RG
            obtain ⟨left, cnt, xs, hcg, RG⟩ := hrel
            go_wp2_with (at_next; go_loud (refine wpList_next_ranges _ rfl (.tmp 57) rfl 9 impl_misleading.law (plainElem Tryz.prog 9) Value.string Value.string (fun key kl h => impl_misleading.key_inv h) (fun v y h => impl_misleading.val_inv h) bm (wq.heap.size + 1) 60 D left cnt rfl RG.out.rg ?_ ?_))
            · intro _ hl0
              have HALL := Aside0.mk (show ∀ l, (m1 l).isSome = true → ∃ s ∈ xs, s.data.toList = l from fun l hl => by
                rcases RG.out.all l hl with h1 | h1
                · rw [hl0] at h1; cases h1
                · exact h1)
              obtain ⟨ao, cap, rfl, hrow⟩ := RG.out.form
              have HROW := Aside0.mk hrow
              have SX := Aside0.mk RG.out.st
              have HMEM := Aside0.mk RG.out.mem
              have h60 : xs.length ≤ 60 := by have := RG.out.len; omega
              clear hl0 hrow
              have ROW := Aside0.mk (show impl_misleading.Rows xs ao bm wr from HROW.out)
              clear HROW
              go_wp2_with fail
              go_loopg [10, 68] xs.length (fun gg v10 v68 w' => ∃ (again : Bool) (k : Nat) (m2 : List UInt8 → Option (List UInt8)), v10 = .bool again ∧ v68 = .int .i64 (k : Int) ∧ k ≤ xs.length ∧ xs.length - k ≤ gg ∧ Aside0 (impl_misleading.St l0_0 w (some ⟨p0, q0, none⟩) c0_0 bm bc w.heap.size m2 w') ∧ Aside0 (impl_misleading.Rows xs ao bm w') ∧ Aside0 (impl_misleading.PR l0_0 m1 m2 again (impl_misleading.Q8 l0_0 xs m1 k)))
              case atStart => exact ⟨false, 0, m1, rfl, rfl, Nat.zero_le _, Nat.le_refl _, SX, ROW, ⟨impl_misleading.PR.start _ _ _ impl_misleading.Q8_zero⟩⟩
              case round =>
                clear SX ROW RG
                obtain ⟨again, k, m2, rfl, rfl, hk, hkg, S, ROW, PRK⟩ := hrel
                by_cases hlt : k < xs.length
                · have hltz : (k : Int) < (xs.length : Int) := by omega
                  have k0 : (0 : Int) ≤ (k : Int) := by omega
                  obtain ⟨g, rfl, hgm, hcell⟩ := ROW.out k hlt
                  obtain ⟨s, hs⟩ : ∃ s, xs[k] = s := ⟨_, rfl⟩
                  rw [hs] at hcell
                  have HS := Aside0.mk (show xs[k]? = some s ∧ s ∈ xs from ⟨by rw [List.getElem?_eq_getElem hlt, hs], by rw [← hs]; exact List.getElem_mem hlt⟩)
                  clear hs hgm
                  by_cases h0 : s.data.toList = []
                  · have hs0 : s = ⟨#[]⟩ := by
                      cases s with
                      | mk d => cases d with | mk l => simp at h0; rw [h0]
                    have PRN := Aside0.mk (PRK.out.weak (impl_misleading.Q8_skip HS.out.1 h0))
                    clear h0 HS
                    subst hs0
                    go_wp2_with fail
                    go_roundg (xs.length - (k + 1))
                    case measure => omega
                    case rel => exact ⟨again, k + 1, m2, rfl, by go_num, by omega, by omega, S, ROW, PRN⟩
                  · have heq := impl_misleading.full_ s h0
                    have HNE := Aside0.mk h0
                    have ct := S.out.ct
                    clear h0
                    go_wp2_with fail
                    clear ct hcell heq
                    go_loopg [10, 77] l0_0.length (fun gg v10 v77 w' => ∃ (again2 : Bool) (j : Nat) (m3 : List UInt8 → Option (List UInt8)), v10 = .bool again2 ∧ v77 = .int .i64 (j : Int) ∧ j ≤ l0_0.length ∧ l0_0.length - j ≤ gg ∧ Aside0 (impl_misleading.St l0_0 w (some ⟨p0, q0, none⟩) c0_0 bm bc w.heap.size m3 w') ∧ Aside0 (impl_misleading.Rows xs (some ⟨g, 0, none⟩) bm w') ∧ Aside0 (impl_misleading.PR l0_0 m1 m3 again2 (impl_misleading.Q10 l0_0 xs m1 k s.data.toList j)))
                    case atStart => exact ⟨again, 0, m2, rfl, rfl, Nat.zero_le _, Nat.le_refl _, S, ROW, ⟨PRK.out.weak (fun p hp => by
                      rcases hp with hp | ⟨j', h, _⟩
                      · exact hp
                      · omega)⟩⟩
                    case round =>
                      clear S ROW PRK
                      obtain ⟨again2, j, m3, rfl, rfl, hj, hjg, S, ROW, PRJ⟩ := hrel
                      by_cases hlt2 : j < l0_0.length
                      · have hltz2 : (j : Int) < (l0_0.length : Int) := by omega
                        have j0 : (0 : Int) ≤ (j : Int) := by omega
                        have hcj := pw_cell_below S.out.bel (HPQ.out j hlt2)
                        obtain ⟨b, hb⟩ : ∃ b, l0_0[j] = b := ⟨_, rfl⟩
                        rw [hb] at hcj
                        have HB := Aside0.mk (show l0_0.getD j ByteArray.empty = b ∧ b ∈ l0_0 from ⟨by rw [List.getD_eq_getElem?_getD, List.getElem?_eq_getElem hlt2, hb]; rfl, by rw [← hb]; exact List.getElem_mem hlt2⟩)
                        clear hb
                        have hsb := (impl_misleading.ok_mem HT.out HB.out.2).2.1
                        have esb : b.data.toList.length = b.size := Array.length_toList
                        have ess : s.data.toList.length = s.size := Array.length_toList
                        obtain ⟨x, hx⟩ : ∃ x, m3 s.data.toList = some x := by
                          have h1 := HMEM.out s HS.out.2
                          cases e : m1 s.data.toList with
                          | none => rw [e] at h1; cases h1
                          | some y =>
                            obtain ⟨z, hz, _⟩ := PRJ.out.1 _ _ e
                            exact ⟨z, hz⟩
                        have hrx := S.out.good.sound _ _ hx
                        have hss := impl_misleading.sfx_short HT.out (impl_misleading.reach_ok HT.out hrx).1
                        have hlx := S.out.good.len _ _ hx
                        have hc60 := impl_misleading.cnt_le HT.out m3
                        rw [esb] at hsb
                        rw [ess] at hss
                        have hp1 := impl_misleading.pre_ s b (by omega) (by omega)
                        have hp2 := impl_misleading.pre_ b s (by omega) (by omega)
                        obtain ⟨tx, htx⟩ : ∃ tx : ByteArray, tx.data.toList = x := ⟨⟨x.toArray⟩, rfl⟩
                        cases hpf1 : b.data.toList.isPrefixOf s.data.toList with
                        | true =>
                          rw [hpf1] at hp1
                          have HP1 := Aside0.mk hp1
                          have he : impl_misleading.ext s.data.toList x b.data.toList = some (s.data.toList.drop b.data.toList.length, x) := by unfold impl_misleading.ext; rw [if_pos hpf1]
                          have hle : b.size ≤ s.size := by
                            have := (List.isPrefixOf_iff_prefix.1 hpf1).length_le
                            omega
                          have hlez : (b.size : Int) ≤ (s.size : Int) := by omega
                          have b0 : (0 : Int) ≤ (b.size : Int) := by omega
                          have hr := hrx.step HNE.out HB.out.2 he
                          have hl : x.length ≤ 10 + 5 * impl_misleading.cnt l0_0 m3 := by omega
                          have hcut : (s.data.toList.drop b.data.toList.length, x) = ((s.extract b.size s.size).data.toList, tx.data.toList) := by rw [impl_misleading.cut_, esb, htx]
                          have hlk : impl_misleading.txt (m3 s.data.toList) = tx := by rw [hx, ← htx]; rfl
                          have PRN0 := PRJ.out.put HT.out S.out.good hx he hr hl (impl_misleading.Q10_next HB.out.1)
                          clear hp1 hp2 he
                          go_upto_region 29 with (go_at_call 49; refine (strings_HasPrefix.calls s b true _ HP1.out).mono ?_; rintro e w' ⟨rfl, ⟨nd, rfl⟩⟩)
                          have S1 := Aside0.mk (S.out.below (pw_below_drewN (Below.refl _ _) nd))
                          have ROW1 := Aside0.mk (ROW.out.below (pw_below_drewN (Below.refl _ _) nd))
                          clear S ROW hcj
                          generalize wr.drewN nd = wh at S1 ROW1 ⊢
                          have SD := S1.out.below (below_drew (Below.refl _ _))
                          have RD := Aside0.mk (ROW1.out.below (below_drew (Below.refl _ _)))
                          have cmd := SD.cm
                          have hlook := SD.own.look s (by unfold maxLen; omega)
                          rw [hlk] at hlook
                          have HQ0 := impl_misleading.put_at HT.out SD (s.extract b.size s.size) tx hcut hr hl
                          have HX := Aside0.mk (And.intro htx (And.intro hx (And.intro hrx hr)))
                          clear SD hlk hcut htx hx hrx hr hpf1 hl
                          generalize (s.data.toList.drop b.data.toList.length, x) = p at *
                          cases hbv : impl_misleading.bad m3 p with
                          | true =>
                            rw [hbv] at HQ0 PRN0
                            have HQ := Aside0.mk HQ0
                            have PRN := Aside0.mk (show impl_misleading.PR l0_0 m1 (impl_misleading.nxt m3 p) true (impl_misleading.Q10 l0_0 xs m1 k s.data.toList (j + 1)) from PRN0)
                            clear HQ0 PRN0 hbv
                            first | (go_region_law (refine impl_misleading.goesB rfl rfl (.tmp 85) (.tmp 89) (.tmp 92) #[9, 9] rfl bc rfl (s.extract b.size s.size) tx rfl rfl ?_; refine HQ.out.mono ?_; rintro e w2 ⟨rfl, S2, G2⟩; refine ⟨_, rfl, ?_⟩)) | fail
                            go_wp2_with fail
                            go_roundg (l0_0.length - (j + 1))
                            case measure => omega
                            case rel => exact ⟨true, j + 1, impl_misleading.nxt m3 p, rfl, by go_num, by omega, by omega, S2, ⟨RD.out.kept G2.out⟩, PRN⟩
                          | false =>
                            rw [hbv] at HQ0 PRN0
                            have HQ := Aside0.mk HQ0
                            have PRN := Aside0.mk (show impl_misleading.PR l0_0 m1 (impl_misleading.nxt m3 p) again2 (impl_misleading.Q10 l0_0 xs m1 k s.data.toList (j + 1)) from PRN0)
                            clear HQ0 PRN0 hbv
                            first | (go_region_law (refine impl_misleading.goesB rfl rfl (.tmp 85) (.tmp 89) (.tmp 92) #[9, 9] rfl bc rfl (s.extract b.size s.size) tx rfl rfl ?_; refine HQ.out.mono ?_; rintro e w2 ⟨rfl, S2, G2⟩; refine ⟨_, rfl, ?_⟩)) | fail
                            go_wp2_with fail
                            go_roundg (l0_0.length - (j + 1))
                            case measure => omega
                            case rel => exact ⟨again2, j + 1, impl_misleading.nxt m3 p, rfl, by go_num, by omega, by omega, S2, ⟨RD.out.kept G2.out⟩, PRN⟩
                        | false =>
                          rw [hpf1] at hp1
                          have HP1 := Aside0.mk hp1
                          cases hpf2 : s.data.toList.isPrefixOf b.data.toList with
                          | true =>
                            rw [hpf2] at hp2
                            have HP2 := Aside0.mk hp2
                            have he : impl_misleading.ext s.data.toList x b.data.toList = some (b.data.toList.drop s.data.toList.length, x ++ b.data.toList.drop s.data.toList.length) := by unfold impl_misleading.ext; rw [if_neg (by rw [hpf1]; simp), if_pos hpf2]
                            have hle : s.size ≤ b.size := by
                              have := (List.isPrefixOf_iff_prefix.1 hpf2).length_le
                              omega
                            have hlez : (s.size : Int) ≤ (b.size : Int) := by omega
                            have b0 : (0 : Int) ≤ (s.size : Int) := by omega
                            have hr := hrx.step HNE.out HB.out.2 he
                            have hl : (x ++ b.data.toList.drop s.data.toList.length).length ≤ 10 + 5 * impl_misleading.cnt l0_0 m3 := by rw [List.length_append, List.length_drop]; omega
                            have hcut : (b.data.toList.drop s.data.toList.length, x ++ b.data.toList.drop s.data.toList.length) = ((b.extract s.size b.size).data.toList, (tx ++ b.extract s.size b.size).data.toList) := by rw [ByteArray.data_append, Array.toList_append, impl_misleading.cut_, ess, htx]
                            have hlk : impl_misleading.txt (m3 s.data.toList) = tx := by rw [hx, ← htx]; rfl
                            have PRN0 := PRJ.out.put HT.out S.out.good hx he hr hl (impl_misleading.Q10_next HB.out.1)
                            have htz : tx.size = x.length := by rw [← htx]; exact Array.length_toList.symm
                            have hsm : tx.size + (b.size - s.size) ≤ 9223372036854775807 := by omega
                            have e0 := eq_true hsm
                            have e1 : decide (tx.size + (b.size - s.size) ≤ 9223372036854775807) = true := decide_eq_true hsm
                            have e2 : (9223372036854775807 < tx.size + (b.size - s.size)) = False := eq_false (Nat.not_lt.2 hsm)
                            clear hp1 hp2 he hsm htz
                            go_upto_region 31 with (first | (go_at_call 49; refine (strings_HasPrefix.calls s b false _ HP1.out).mono ?_; rintro e w' ⟨rfl, ⟨nd, rfl⟩⟩) | (go_at_call 49; refine (strings_HasPrefix.calls b s true _ HP2.out).mono ?_; rintro e w' ⟨rfl, ⟨nd2, rfl⟩⟩))
                            have S1 := Aside0.mk (S.out.below (pw_below_drewN (Below.refl _ _) (nd + nd2)))
                            have ROW1 := Aside0.mk (ROW.out.below (pw_below_drewN (Below.refl _ _) (nd + nd2)))
                            clear S ROW hcj
                            generalize wr.drewN (nd + nd2) = wh at S1 ROW1 ⊢
                            have SD := S1.out.below (below_drew (Below.refl _ _))
                            have RD := Aside0.mk (ROW1.out.below (below_drew (Below.refl _ _)))
                            have cmd := SD.cm
                            have hlook := SD.own.look s (by unfold maxLen; omega)
                            rw [hlk] at hlook
                            have HQ0 := impl_misleading.put_at HT.out SD (b.extract s.size b.size) (tx ++ b.extract s.size b.size) hcut hr hl
                            have HX := Aside0.mk (And.intro htx (And.intro hx (And.intro hrx hr)))
                            clear SD hlk hcut htx hx hrx hr hpf1 hpf2 hl
                            generalize (b.data.toList.drop s.data.toList.length, x ++ b.data.toList.drop s.data.toList.length) = p at *
                            cases hbv : impl_misleading.bad m3 p with
                            | true =>
                              rw [hbv] at HQ0 PRN0
                              have HQ := Aside0.mk HQ0
                              have PRN := Aside0.mk (show impl_misleading.PR l0_0 m1 (impl_misleading.nxt m3 p) true (impl_misleading.Q10 l0_0 xs m1 k s.data.toList (j + 1)) from PRN0)
                              clear HQ0 PRN0 hbv
                              first | (go_region_law (refine impl_misleading.goesB rfl rfl (.tmp 101) (.tmp 105) (.tmp 113) #[9, 9] rfl bc rfl (b.extract s.size b.size) (tx ++ b.extract s.size b.size) rfl rfl ?_; refine HQ.out.mono ?_; rintro e w2 ⟨rfl, S2, G2⟩; refine ⟨_, rfl, ?_⟩)) | fail
                              go_wp2_with fail
                              go_roundg (l0_0.length - (j + 1))
                              case measure => omega
                              case rel => exact ⟨true, j + 1, impl_misleading.nxt m3 p, rfl, by go_num, by omega, by omega, S2, ⟨RD.out.kept G2.out⟩, PRN⟩
                            | false =>
                              rw [hbv] at HQ0 PRN0
                              have HQ := Aside0.mk HQ0
                              have PRN := Aside0.mk (show impl_misleading.PR l0_0 m1 (impl_misleading.nxt m3 p) again2 (impl_misleading.Q10 l0_0 xs m1 k s.data.toList (j + 1)) from PRN0)
                              clear HQ0 PRN0 hbv
                              first | (go_region_law (refine impl_misleading.goesB rfl rfl (.tmp 101) (.tmp 105) (.tmp 113) #[9, 9] rfl bc rfl (b.extract s.size b.size) (tx ++ b.extract s.size b.size) rfl rfl ?_; refine HQ.out.mono ?_; rintro e w2 ⟨rfl, S2, G2⟩; refine ⟨_, rfl, ?_⟩)) | fail
                              go_wp2_with fail
                              go_roundg (l0_0.length - (j + 1))
                              case measure => omega
                              case rel => exact ⟨again2, j + 1, impl_misleading.nxt m3 p, rfl, by go_num, by omega, by omega, S2, ⟨RD.out.kept G2.out⟩, PRN⟩
                          | false =>
                            rw [hpf2] at hp2
                            have HP2 := Aside0.mk hp2
                            have PRN := Aside0.mk (PRJ.out.skip hpf1 hpf2 (impl_misleading.Q10_next HB.out.1))
                            clear hp1 hp2 hpf1 hpf2 htx hx hrx
                            go_wp2_with (first | (go_at_call 49; refine (strings_HasPrefix.calls s b false _ HP1.out).mono ?_; rintro e w' ⟨rfl, ⟨nd, rfl⟩⟩) | (go_at_call 49; refine (strings_HasPrefix.calls b s false _ HP2.out).mono ?_; rintro e w' ⟨rfl, ⟨nd2, rfl⟩⟩))
                            go_roundg (l0_0.length - (j + 1))
                            case measure => omega
                            case rel => exact ⟨again2, j + 1, m3, rfl, by go_num, by omega, by omega, ⟨S.out.below (pw_below_drewN (Below.refl _ _) (nd + nd2))⟩, ⟨ROW.out.below (pw_below_drewN (Below.refl _ _) (nd + nd2))⟩, PRN⟩
                      · have : j = l0_0.length := by omega
                        subst this
                        have hltz2 : ¬ ((l0_0.length : Int) < (l0_0.length : Int)) := by omega
                        have PRN := Aside0.mk (PRJ.out.weak (impl_misleading.Q8_next HS.out.1))
                        go_wp2_with fail
                        go_roundg (xs.length - (k + 1))
                        case measure => omega
                        case rel => exact ⟨again2, k + 1, m3, rfl, by go_num, by omega, by omega, S, ROW, PRN⟩
                · have : k = xs.length := by omega
                  subst this
                  have hltz : ¬ ((xs.length : Int) < (xs.length : Int)) := by omega
                  have hph := PRK.out.2
                  have hbx3 : w.heap.size < wr.heap.size := World.block_lt_of_cell? wr _ S.out.ct
                  have DI3 := Aside0.mk (fun p hp => impl_misleading.bad_le PRK.out.1 (DI.out p hp))
                  have DC3 := Aside0.mk (show again = false → impl_misleading.Closed l0_0 m2 from fun e => by subst e; exact impl_misleading.closed_round PRK.out DI.out HALL.out)
                  have HPH := Aside0.mk (show impl_misleading.phi l0_0 m2 + (if again = true then 1 else 0) < gq from by
                    cases again with
                    | true => have := hph.2.1 rfl; rw [if_pos rfl]; omega
                    | false => have := hph.1; rw [if_neg (by simp)]; omega)
                  clear hph
                  go_wp2_with fail
                  go_roundg (impl_misleading.phi l0_0 m2 + (if again = true then 1 else 0))
                  case measure => exact HPH.out
                  case rel => exact ⟨again, m2, rfl, Nat.le_refl _, S, DI3, DC3, hbx3⟩
            · intro x cx kl y1 y2 w2 cnt2 hk hlk hv hat hrg1 hlt hg1 hs1 hen
              obtain ⟨rfl, hxm⟩ := impl_misleading.key_str hk
              obtain ⟨s2, r2⟩ := RG.out.next hrg1 hg1
              have R2 := Aside0.mk r2
              have HG1 := Aside0.mk hg1
              have HRG := Aside0.mk hrg1
              have h60 : xs.length + 1 ≤ 60 := by have := RG.out.len; omega
              have HLE : wq.heap.size ≤ w2.heap.size := by have h1 := RG.out.lr; have h2 := hrg1.lt; omega
              clear hk hv hat hrg1 hg1 hs1 r2 s2 hxm
              obtain ⟨iS, hi, hz, hs, hb⟩ := impl_misleading.infoS
              have IS := Aside0.mk hi
              have ZS := Aside0.mk hz
              have SS := Aside0.mk hs
              have BS := Aside0.mk hb
              clear hi hz hs hb
              go_wp2_with (at_builtin; go_loud (refine wpList_append_own _ rfl (.tmp 62) (.tmp 64) 22 rfl wq.heap.size 9 iS (.string ⟨#[]⟩) 1 16 Tryz.underlying22 IS.out ZS.out SS.out BS.out rfl (by decide) u11 xs.length (xs.map Value.string) rfl (own_alloc R2.out _) ⟨w2.heap.size, 0, none⟩ 1 1 [.string x] rfl rfl (fun j u hu => impl_misleading.src1 j u hu _ (impl_misleading.new1 _ _ _)) (fun u hu => by rw [List.mem_singleton.1 hu]; rfl) (by unfold maxLen; omega) (by omega) (by simp; omega) ?_); intro v' w4 hown hgrow hiff; have RG4 := Aside0.mk (RG.out.push x HRG.out HG1.out hlt hlk rfl hown hgrow); clear hown hgrow hiff)
              go_roundg cnt2
              case measure => omega
              case rel => exact ⟨_, cnt2, _, Nat.le_refl _, RG4⟩

end Go.Proofs.YtpdojionnmehbaaGreatDoor.HFnExactFirstMisleading
