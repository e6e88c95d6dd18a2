/- StretchLine of the program and of the reference answer alike at every text and number. -/
import Derived.Test.YtlfheofodhfbaaaDoorHFnExactStretchLinex3
namespace Go.Proofs.YtlfheofodhfbaaaDoor.Pure
open Go.RowKit Go.Proofs.YtlfheofodhfbaaaDoor.HFnExactStretchLine Go.Proofs.YtlfheofodhfbaaaDoorW.PrintWords Go.Proofs.YtlfheofodhfbaaaDoorW.PrintLast
set_option linter.unusedVariables false
set_option linter.unusedSimpArgs false
set_option linter.unnecessarySimpa false

theorem wr {i : Int} (h0 : -9223372036854775808 ≤ i) (h1 : i ≤ 9223372036854775807) : wrap64 i = i := by unfold wrap64; omega
theorem rd_nat (xs : List Int) (i : Nat) : rd xs (i : Int) = xs.getD i 0 := by simp [rd]
theorem rd_get (xs : List Int) (i : Nat) (h : i < xs.length) : rd xs (i : Int) = xs[i] := by simp [rd, h]
theorem pred_of_lt {d k : Nat} (h : d < k) : ∃ m, k = m + 1 := ⟨k - 1, by omega⟩
/-! bytes of a text -/
theorem size_data (s : ByteArray) : s.data.toList.length = s.size := Array.length_toList
theorem bt_nat (s : ByteArray) (i : Nat) (h : i < s.size) : bt s (i : Int) = ((s.data.toList[i]'(by rw [size_data]; exact h)).toNat : Int) := by
  have := bt_at s (i : Int) (by simpa using h)
  rw [← this]
  rfl
theorem byte_num (b c : UInt8) (n : Nat) (hc : c.toNat = n) : ((b.toNat : Int) = (n : Int)) ↔ b = c := by
  constructor
  · intro h
    exact UInt8.toNat_inj.1 (by omega)
  · rintro rfl; omega
/-! what is left when bytes of a set are taken off both ends -/
theorem dropWhile_nil {p : UInt8 → Bool} (l : List UInt8) : l.dropWhile p = [] ↔ l.all p = true := by
  induction l with
  | nil => simp
  | cons a l ih =>
    rw [List.dropWhile_cons]
    by_cases h : p a = true
    · rw [if_pos h, ih]; simp [h]
    · rw [if_neg h]; simp [h]
theorem trimS_nil (l cs : List UInt8) : Lib.trimS l cs = [] ↔ l.all (cs.contains ·) = true := by
  unfold Lib.trimS Lib.trimLeftS Lib.trimRightS
  rw [dropWhile_nil]
  constructor
  · intro h
    by_cases hr : (l.reverse.dropWhile (cs.contains ·)) = []
    · rw [dropWhile_nil, List.all_reverse] at hr; exact hr
    · exfalso
      rw [List.all_reverse] at h
      cases hd : l.reverse.dropWhile (cs.contains ·) with
      | nil => exact hr hd
      | cons a t =>
        have ha : cs.contains a = false := by
          have := List.head?_dropWhile_not (cs.contains ·) l.reverse
          rw [hd] at this
          simpa using this
        rw [hd] at h
        simp at h
        rw [List.contains_eq_mem] at ha
        simp [h.1] at ha
  · intro h
    have : (l.reverse.dropWhile (cs.contains ·)) = [] := by
      rw [dropWhile_nil, List.all_reverse]; exact h
    rw [this]; rfl
theorem toList_nil (l : List UInt8) : ((⟨l.toArray⟩ : ByteArray).toList == ([] : List UInt8)) = l.isEmpty := by
  have : (⟨l.toArray⟩ : ByteArray).toList = l := by
    rw [ByteArray.toList_eq]
  rw [this]
  cases l <;> rfl
theorem l1In_eq (a b c : Int) : spec_l1In.f a b c = some (decide (b ≤ a) && decide (a ≤ c)) := by
  unfold spec_l1In.f
  by_cases h : a ≥ b
  · rw [if_pos h]; simp [show b ≤ a from h]
  · rw [if_neg h]; simp [show ¬ b ≤ a from h]
theorem in_eq (a b c : Int) : impl_in.f a b c = some (decide (b ≤ a) && decide (a ≤ c)) := by
  unfold impl_in.f
  by_cases h : a ≥ b
  · rw [if_pos h]; simp [show b ≤ a from h]
  · rw [if_neg h]; simp [show ¬ b ≤ a from h]
/-! a line, as both sides ask for it -/
def onOff (b : UInt8) : Bool := b == 48 || b == 49
def isLn (s : ByteArray) : Bool := decide (s.size ≤ 200) && s.data.toList.all onOff
theorem bt_is (s : ByteArray) (i : Nat) (h : i < s.size) (c : UInt8) (n : Int) (hc : (c.toNat : Int) = n) : (bt s (i : Int) = n) ↔ (s.data.toList[i]'(by rw [size_data]; exact h)) = c := by
  rw [bt_nat s i h, ← hc]
  constructor
  · intro e; exact UInt8.toNat_inj.1 (by omega)
  · intro e; rw [e]
theorem l4Line_l0 (s : ByteArray) (hs : s.size ≤ 1048576) (d : Nat) : ∀ (k i : Nat), i ≤ s.size → s.size - i = d → 2 * d + 1 < k → (s.data.toList.take i).all onOff = true → spec_l4Line.l0 k s (i : Int) = some (isLn s) := by
  have hsz := size_data s
  induction d with
  | zero =>
    intro k i hi hd hk ht
    obtain ⟨k, rfl⟩ := pred_of_lt hk
    obtain ⟨k, rfl⟩ : ∃ m, k = m + 1 := ⟨k - 1, by omega⟩
    simp only [spec_l4Line.l0]; rw [if_neg (by omega)]
    simp only [spec_l4Line.j1]; rw [if_neg (by simp)]
    rw [List.take_of_length_le (by omega)] at ht
    have : decide ((s.size : Int) ≤ 200) = decide (s.size ≤ 200) := by rw [decide_eq_decide]; omega
    rw [this]; simp [isLn, ht]
  | succ d ih =>
    intro k i hi hd hk ht
    obtain ⟨k, rfl⟩ := pred_of_lt hk
    obtain ⟨k, rfl⟩ : ∃ m, k = m + 1 := ⟨k - 1, by omega⟩
    have c1 : (i : Int) < (s.size : Int) := by omega
    have c2 : (0 : Int) ≤ (i : Int) := by omega
    have e : wrap64 ((i : Int) + 1) = ((i + 1 : Nat) : Int) := by rw [wr (by omega) (by omega)]; omega
    simp only [spec_l4Line.l0, c1, if_true, spec_l4Line.j1]
    by_cases h200 : (i : Int) ≤ 200
    · have hd2 : decide ((i : Int) ≤ 200) = true := by simpa using h200
      simp only [hd2, c2, if_true, e]
      have hlt : i < s.data.toList.length := by omega
      have next : onOff (s.data.toList[i]) = true → spec_l4Line.l0 k s ((i + 1 : Nat) : Int) = some (isLn s) := fun hb => ih k (i + 1) (by omega) (by omega) (by omega) (by
        rw [List.take_succ_eq_append_getElem hlt, List.all_append, ht]; simp only [List.all_cons, List.all_nil, hb, Bool.and_true])
      by_cases h0 : bt s (i : Int) = 48
      · rw [if_pos h0]
        exact next (by rw [bt_is s i (by omega) 48 48 (by decide)] at h0; rw [h0]; decide)
      · rw [if_neg h0]
        by_cases h1 : bt s (i : Int) = 49
        · rw [if_pos h1]
          exact next (by rw [bt_is s i (by omega) 49 49 (by decide)] at h1; rw [h1]; decide)
        · rw [if_neg h1]
          rw [bt_is s i (by omega) 48 48 (by decide)] at h0
          rw [bt_is s i (by omega) 49 49 (by decide)] at h1
          have hm : s.data.toList[i] ∈ s.data.toList := List.getElem_mem _
          have hf : s.data.toList.all onOff = false := by
            rw [List.all_eq_false]; exact ⟨_, hm, by simp only [onOff, Bool.or_eq_true, beq_iff_eq, h0, h1, or_self, not_false_eq_true]⟩
          simp [isLn, hf]
    · have hd2 : decide ((i : Int) ≤ 200) = false := by simpa using h200
      simp only [hd2, Bool.false_eq_true, if_false]
      have : decide ((s.size : Int) ≤ 200) = false := by simp; omega
      rw [this]
      simp [isLn, show ¬ s.size ≤ 200 by omega]
theorem l4Line_eq (s : ByteArray) (hs : s.size ≤ 1048576) (k : Nat) (hk : 2 * s.size + 1 < k) : spec_l4Line.f k s = some (isLn s) := by
  unfold spec_l4Line.f
  exact l4Line_l0 s hs s.size k 0 (by omega) (by omega) hk (by simp)
theorem implLine_eq (s : ByteArray) : impl_IsLine.f s = some (isLn s) := by
  unfold impl_IsLine.f
  by_cases h : (s.size : Int) ≤ 200
  · rw [if_pos h]
    unfold strings_Trim.f
    rw [if_pos (by omega), if_pos (by decide), if_pos (by decide)]
    simp only [Option.bind_some]
    rw [toList_nil]
    have e : (Lib.trimS s.data.toList [48, 49]).isEmpty = s.data.toList.all onOff := by
      rw [Bool.eq_iff_iff, List.isEmpty_iff, trimS_nil]
      have : (fun x => [48, 49].contains x) = onOff := by
        funext x
        simp [onOff, List.contains_eq_mem]
        rfl
      rw [this]
    show some (Lib.trimS s.data.toList [48, 49]).isEmpty = _
    rw [e]
    simp [isLn, show s.size ≤ 200 by omega]
  · rw [if_neg h]; simp [isLn, show ¬ s.size ≤ 200 by omega]
/-! a text as a list of bytes, and as a list of numbers -/
def txt (l : List UInt8) : ByteArray := ⟨l.toArray⟩
def numsOf (l : List UInt8) : List Int := l.map fun b => (b.toNat : Int)
theorem txt_data (l : List UInt8) : (txt l).data.toList = l := rfl
theorem txt_size (l : List UInt8) : (txt l).size = l.length := by rw [← size_data, txt_data]
theorem txt_of (s : ByteArray) : txt s.data.toList = s := rfl
theorem txt_app (l m : List UInt8) : txt l ++ txt m = txt (l ++ m) := by
  apply ByteArray.ext
  apply Array.toList_inj.1
  rw [ByteArray.data_append, Array.toList_append]
  rfl
theorem strOf_nums (l : List UInt8) : strOfNums (numsOf l) = txt l := by
  unfold strOfNums numsOf txt
  rw [List.map_map]
  congr 2
  rw [List.map_congr_left (g := id)]
  · simp
  · intro b _
    simp
theorem nums_app (l : List UInt8) (b : UInt8) (n : Int) (h : (b.toNat : Int) = n) : numsOf l ++ [n] = numsOf (l ++ [b]) := by
  simp [numsOf, h]
theorem nums_len (l : List UInt8) : (numsOf l).length = l.length := by simp [numsOf]
/-! a text said over and over -/
theorem repeat_one (c : UInt8) : ∀ n, Lib.repeatL [c] n = List.replicate n c
  | 0 => rfl
  | n + 1 => by rw [Lib.repeatL, repeat_one c n]; rfl
theorem many_l0 (c : UInt8) (n : Nat) (hn : n ≤ 1048576) (d : Nat) : ∀ (k i : Nat), i ≤ n → n - i = d → d < k → spec_l4Many.l0 k ⟨#[c]⟩ (n : Int) (txt (List.replicate i c)) (i : Int) = some (txt (List.replicate n c)) := by
  induction d with
  | zero =>
    intro k i hi hd hk
    obtain ⟨k, rfl⟩ := pred_of_lt hk
    simp only [spec_l4Many.l0]; rw [if_neg (by omega), show i = n by omega]
  | succ d ih =>
    intro k i hi hd hk
    obtain ⟨k, rfl⟩ := pred_of_lt hk
    have e1 : wrap64 ((i : Int) + 1) = ((i + 1 : Nat) : Int) := by rw [wr (by omega) (by omega)]; omega
    have e2 : txt (List.replicate i c) ++ (⟨#[c]⟩ : ByteArray) = txt (List.replicate (i + 1) c) := by
      show txt (List.replicate i c) ++ txt [c] = _
      rw [txt_app, List.replicate_succ']
    have hz : (txt (List.replicate i c)).size = i := by rw [txt_size, List.length_replicate]
    have h1 : (⟨#[c]⟩ : ByteArray).size = 1 := rfl
    simp only [spec_l4Many.l0]
    rw [if_pos (by omega), if_pos (by omega), e1, e2]
    exact ih k (i + 1) (by omega) (by omega) (by omega)
theorem many_eq (c : UInt8) (n : Int) (h0 : 0 ≤ n) (h1 : n ≤ 1048576) (k : Nat) (hk : n.toNat < k) : spec_l4Many.f k ⟨#[c]⟩ n = some (txt (List.replicate n.toNat c)) := by
  unfold spec_l4Many.f
  have := many_l0 c n.toNat (by omega) n.toNat k 0 (by omega) (by omega) hk
  rw [Int.toNat_of_nonneg h0] at this
  exact this
theorem repeat_eq (c : UInt8) (n : Int) (h0 : 0 ≤ n) (h1 : n ≤ 1048576) : strings_Repeat.f ⟨#[c]⟩ n = some (txt (List.replicate n.toNat c)) := by
  unfold strings_Repeat.f
  have hz : (⟨#[c]⟩ : ByteArray).size = 1 := rfl
  rw [if_pos h0, if_pos (by omega), if_pos (by rw [hz]; omega)]
  show some (txt (Lib.repeatL [c] n.toNat)) = _
  rw [repeat_one]
/-! the runs of a line -/
def rstep (x : List S40) (c : UInt8) : List S40 :=
  match x.getLast? with
  | none => [⟨(c.toNat : Int) - 48, 1⟩]
  | some p => if p.f0 = (c.toNat : Int) - 48 then x.dropLast ++ [⟨p.f0, p.f1 + 1⟩] else x ++ [⟨(c.toNat : Int) - 48, 1⟩]
def rns (l : List UInt8) : List S40 := l.foldl rstep []
theorem rns_nil : rns [] = [] := rfl
theorem rns_snoc (t : List UInt8) (c : UInt8) : rns (t ++ [c]) = rstep (rns t) c := by simp [rns]
theorem snoc_of {α : Type} (t : List α) (h : t ≠ []) : ∃ u c, t = u ++ [c] := ⟨t.dropLast, t.getLast h, (List.dropLast_concat_getLast h).symm⟩
theorem rstep_snoc (x : List S40) (p : S40) (c : UInt8) : rstep (x ++ [p]) c = if p.f0 = (c.toNat : Int) - 48 then x ++ [⟨p.f0, p.f1 + 1⟩] else x ++ [p] ++ [⟨(c.toNat : Int) - 48, 1⟩] := by
  simp only [rstep, List.getLast?_append, List.getLast?_singleton, Option.some_or, List.dropLast_concat]
/-- a run of a line that ends in b is the last one, of b -/
theorem rns_last (t : List UInt8) : ∀ (u : List UInt8) (b : UInt8), t = u ++ [b] → ∃ (x : List S40) (n : Int), rns t = x ++ [⟨(b.toNat : Int) - 48, n⟩] ∧ 1 ≤ n ∧ n ≤ (t.length : Int) := by
  induction hl : t.length generalizing t with
  | zero => intro u b h; rw [h] at hl; simp at hl
  | succ d ih =>
    intro u b h
    subst h
    rw [rns_snoc]
    by_cases hu : u = []
    · subst hu
      exact ⟨[], 1, rfl, by omega, by simp at hl ⊢; omega⟩
    · obtain ⟨v, c, rfl⟩ := snoc_of u hu
      have hd : (v ++ [c]).length = d := by simpa using hl
      obtain ⟨x, n, hx, h1, h2⟩ := ih (v ++ [c]) hd v c rfl
      rw [hx, rstep_snoc]
      by_cases hc : (c.toNat : Int) - 48 = (b.toNat : Int) - 48
      · exact ⟨x, n + 1, by rw [if_pos hc, hc], by omega, by omega⟩
      · exact ⟨x ++ [⟨(c.toNat : Int) - 48, n⟩], 1, by rw [if_neg hc], by omega, by omega⟩
theorem rns_ne (t : List UInt8) (h : t ≠ []) : rns t ≠ [] := by
  obtain ⟨u, c, rfl⟩ := snoc_of t h
  obtain ⟨x, n, hx, _⟩ := rns_last _ u c rfl
  rw [hx]; simp
theorem rstep_len (x : List S40) (c : UInt8) : (rstep x c).length ≤ x.length + 1 := by
  by_cases h : x = []
  · subst h; simp [rstep]
  · obtain ⟨y, p, rfl⟩ := snoc_of x h
    rw [rstep_snoc]
    split <;> simp
theorem rns_len (t : List UInt8) : (rns t).length ≤ t.length := by
  induction hl : t.length generalizing t with
  | zero => rw [List.length_eq_zero_iff.1 hl]; simp [rns]
  | succ d ih =>
    obtain ⟨u, c, rfl⟩ := snoc_of t (by intro h; rw [h] at hl; simp at hl)
    have := ih u (by simpa using hl)
    have h2 := rstep_len (rns u) c
    rw [rns_snoc]; omega
/-- what holds of all runs: the sign is a byte's, and there is one at least -/
theorem rns_all (t : List UInt8) : ∀ p ∈ rns t, (∃ c ∈ t, p.f0 = (c.toNat : Int) - 48) ∧ 1 ≤ p.f1 ∧ p.f1 ≤ (t.length : Int) := by
  induction hl : t.length generalizing t with
  | zero => rw [List.length_eq_zero_iff.1 hl]; simp [rns]
  | succ d ih =>
    obtain ⟨u, c, rfl⟩ := snoc_of t (by intro h; rw [h] at hl; simp at hl)
    have hu : u.length = d := by simpa using hl
    have I := ih u hu
    rw [rns_snoc]
    by_cases h : rns u = []
    · rw [h]
      intro p hp
      obtain rfl : p = ⟨(c.toNat : Int) - 48, 1⟩ := by simpa [rstep] using hp
      exact ⟨⟨c, by simp, rfl⟩, by show (1 : Int) ≤ 1; omega, by show (1 : Int) ≤ _; omega⟩
    · obtain ⟨y, q, hq⟩ := snoc_of _ h
      rw [hq, rstep_snoc]
      intro p hp
      have old : ∀ p ∈ y ++ [q], (∃ c' ∈ u ++ [c], p.f0 = (c'.toNat : Int) - 48) ∧ 1 ≤ p.f1 ∧ p.f1 ≤ ((d : Nat) : Int) := fun p hp => by
        obtain ⟨⟨c', h1, h2⟩, h3, h4⟩ := I p (by rw [hq]; exact hp)
        exact ⟨⟨c', by simp [h1], h2⟩, h3, by omega⟩
      have hqo := old q (by simp)
      split at hp
      · rename_i he
        rcases List.mem_append.1 hp with h1 | h1
        · obtain ⟨a, b, e⟩ := old p (by simp [h1]); exact ⟨a, b, by omega⟩
        · obtain rfl : p = ⟨q.f0, q.f1 + 1⟩ := by simpa using h1
          refine ⟨⟨c, by simp, he⟩, ?_, ?_⟩
          · show (1 : Int) ≤ q.f1 + 1; omega
          · show q.f1 + 1 ≤ _; omega
      · rcases List.mem_append.1 hp with h1 | h1
        · obtain ⟨a, b, e⟩ := old p h1; exact ⟨a, b, by omega⟩
        · obtain rfl : p = ⟨(c.toNat : Int) - 48, 1⟩ := by simpa using h1
          exact ⟨⟨c, by simp, rfl⟩, by show (1 : Int) ≤ 1; omega, by show (1 : Int) ≤ _; omega⟩
/-- the line of runs -/
def rbyte (f : Int) : UInt8 := UInt8.ofNat (f + 48).toNat
theorem rbyte_of (c : UInt8) : rbyte ((c.toNat : Int) - 48) = c := by
  unfold rbyte
  rw [show (c.toNat : Int) - 48 + 48 = (c.toNat : Int) by omega, Int.toNat_natCast]
  simp
def expd (x : List S40) : List UInt8 := x.flatMap fun p => List.replicate p.f1.toNat (rbyte p.f0)
theorem expd_nil : expd [] = [] := rfl
theorem expd_snoc (x : List S40) (p : S40) : expd (x ++ [p]) = expd x ++ List.replicate p.f1.toNat (rbyte p.f0) := by simp [expd]
theorem expd_rns (t : List UInt8) : expd (rns t) = t := by
  induction hl : t.length generalizing t with
  | zero => rw [List.length_eq_zero_iff.1 hl]; rfl
  | succ d ih =>
    obtain ⟨u, c, rfl⟩ := snoc_of t (by intro h; rw [h] at hl; simp at hl)
    have I := ih u (by simpa using hl)
    rw [rns_snoc]
    by_cases hu : u = []
    · subst hu
      show expd [⟨(c.toNat : Int) - 48, 1⟩] = _
      simp [expd, rbyte_of]
    · obtain ⟨v, b, rfl⟩ := snoc_of u hu
      obtain ⟨x, n, hx, h1, _⟩ := rns_last _ v b rfl
      rw [hx, expd_snoc] at I
      rw [hx, rstep_snoc]
      simp only [rbyte_of] at I
      split
      · rename_i he
        obtain rfl : b = c := by apply UInt8.toNat_inj.1; simp only at he; omega
        rw [expd_snoc]
        simp only [rbyte_of]
        rw [show (n + 1).toNat = n.toNat + 1 by omega, List.replicate_succ', ← List.append_assoc, I]
      · rw [expd_snoc, expd_snoc]
        simp only [rbyte_of]
        rw [I]; rfl
/-! both sides' runs of a line -/
theorem onOff_of {L : List UInt8} (h : L.all onOff = true) {c : UInt8} (hc : c ∈ L) : c = 48 ∨ c = 49 := by
  have := List.all_eq_true.1 h c hc
  simpa [onOff] using this
theorem sign_of {c : UInt8} (h : c = 48 ∨ c = 49) : ((c.toNat : Int) - 48) % 256 = (c.toNat : Int) - 48 := by
  rcases h with rfl | rfl <;> decide
theorem last_at (x : List S40) (p : S40) (hx : x.length ≤ 1048576) : wrap64 (((x ++ [p]).length : Int) - 1) = (x.length : Int) := by
  rw [List.length_append, List.length_singleton, wr (by omega) (by omega)]; omega
theorem last_rd (x : List S40) (p : S40) : rd_T40 (x ++ [p]) (x.length : Int) = p := by simp [rd_T40]
theorem last_set (x : List S40) (p q : S40) : (x ++ [p]).set x.length q = x ++ [q] := by simp
theorem take_snocU (L : List UInt8) (i : Nat) (h : i < L.length) : L.take (i + 1) = L.take i ++ [L[i]] := List.take_succ_eq_append_getElem h
/-- the state behind a step -/
theorem step_of (L : List UInt8) (i : Nat) (h : i + 1 < L.length) : ∃ (x : List S40) (n : Int), 1 ≤ n ∧ n ≤ ((i : Int) + 1) ∧ rns (L.take (i + 1)) = x ++ [⟨(L[i].toNat : Int) - 48, n⟩] ∧
    rns (L.take (i + 2)) = if L[i + 1] = L[i] then x ++ [⟨(L[i].toNat : Int) - 48, n + 1⟩] else x ++ [⟨(L[i].toNat : Int) - 48, n⟩] ++ [⟨(L[i + 1].toNat : Int) - 48, 1⟩] := by
  obtain ⟨x, n, hx, h1, h2⟩ := rns_last (L.take (i + 1)) (L.take i) L[i] (take_snocU L i (by omega))
  refine ⟨x, n, h1, by rw [List.length_take] at h2; omega, hx, ?_⟩
  rw [take_snocU L (i + 1) h, rns_snoc, hx, rstep_snoc]
  by_cases he : L[i + 1] = L[i]
  · rw [if_pos he, if_pos (by simp only [he])]
  · rw [if_neg he, if_neg (by
      intro e; apply he; apply UInt8.toNat_inj.1; simp only at e; omega)]
theorem rns_take_len (L : List UInt8) (i : Nat) : (rns (L.take i)).length ≤ i := by
  have := rns_len (L.take i)
  rw [List.length_take] at this; omega
theorem isLn_all {s : ByteArray} (h : isLn s = true) : s.size ≤ 200 ∧ s.data.toList.all onOff = true := by
  simpa [isLn] using h
theorem iRuns_l0 (s : ByteArray) (hs : s.size ≤ 1048576) (hb : s.data.toList.all onOff = true) (d : Nat) : ∀ (k i : Nat), i ≤ s.size → s.size - i = d → d < k →
    impl_runsOf.l0 k s (rns (s.data.toList.take i)) (s.size : Int) (i : Int) = some (rns s.data.toList) := by
  have hsz := size_data s
  induction d with
  | zero =>
    intro k i hi hd hk
    obtain ⟨k, rfl⟩ := pred_of_lt hk
    simp only [impl_runsOf.l0]
    rw [if_neg (by omega), List.take_of_length_le (by omega)]
  | succ d ih =>
    intro k i hi hd hk
    obtain ⟨k, rfl⟩ := pred_of_lt hk
    have hlt : i < s.data.toList.length := by omega
    have n := ih k (i + 1) (by omega) (by omega) (by omega)
    have e1 : wrap64 ((i : Int) + 1) = ((i + 1 : Nat) : Int) := by rw [wr (by omega) (by omega)]; omega
    have hm := onOff_of hb (List.getElem_mem hlt)
    have hlen := rns_take_len s.data.toList i
    simp only [impl_runsOf.l0, e1, Option.bind_some]
    rw [if_pos (by omega)]
    by_cases h0 : (i : Int) = 0
    · obtain rfl : i = 0 := by omega
      rw [if_pos (by omega), if_pos (by omega), if_pos (by omega), bt_nat s 0 (by omega), sign_of hm]
      have : rns (s.data.toList.take 1) = rns (s.data.toList.take 0) ++ [⟨(s.data.toList[0].toNat : Int) - 48, 1⟩] := by
        rw [take_snocU s.data.toList 0 hlt, rns_snoc]; rfl
      have hz : (rns (s.data.toList.take 0)).length ≤ 1048576 := by omega
      rw [if_pos (by omega), last_at _ _ hz, if_pos (by omega), if_pos (by rw [List.length_append, List.length_singleton]; omega), last_rd, Int.toNat_natCast, last_set, wr (i := 0 + 1) (by omega) (by omega), Int.zero_add, ← this]
      exact n
    · obtain ⟨j, rfl⟩ : ∃ j, i = j + 1 := ⟨i - 1, by omega⟩
      obtain ⟨x, m, h1, h2, hx, hy⟩ := step_of s.data.toList j (by omega)
      have e2 : wrap64 (((j + 1 : Nat) : Int) - 1) = ((j : Nat) : Int) := by clear e1; rw [wr (by omega) (by omega)]; omega
      rw [if_neg h0, if_pos (by omega), if_pos (by omega), e2, if_pos (by omega), if_pos (by omega), bt_nat s (j + 1) (by omega), bt_nat s j (by omega)]
      rw [hy] at n
      by_cases he : s.data.toList[j + 1] = s.data.toList[j]
      · rw [if_pos he] at n
        rw [if_pos (by rw [he]), hx]
        have hxl : x.length ≤ 1048576 := by rw [hx, List.length_append] at hlen; omega
        rw [last_at x _ hxl, if_pos (by omega), if_pos (by rw [List.length_append, List.length_singleton]; omega), last_rd, Int.toNat_natCast, last_set, wr (i := m + 1) (by omega) (by omega)]
        exact n
      · rw [if_neg he] at n
        have hz : (rns (s.data.toList.take (j + 1))).length ≤ 1048576 := by omega
        rw [if_neg (by intro e; apply he; apply UInt8.toNat_inj.1; omega), if_pos (by omega), sign_of hm, last_at _ _ hz, if_pos (by omega), if_pos (by rw [List.length_append, List.length_singleton]; omega), last_rd, Int.toNat_natCast, last_set, wr (i := 0 + 1) (by omega) (by omega), Int.zero_add, hx]
        exact n
theorem iRuns_eq (s : ByteArray) (hs : s.size ≤ 1048576) (hb : s.data.toList.all onOff = true) (k : Nat) (hk : s.size < k) : impl_runsOf.f k s = some (rns s.data.toList) :=
  iRuns_l0 s hs hb s.size k 0 (by omega) (by omega) hk
theorem rdP_get (X : List S40) (i : Nat) (h : i < X.length) : rd_T40 X (i : Int) = X[i] := by simp [rd_T40, h]
/-! the line of runs, as both sides write it -/
theorem rbyte_num {f : Int} (h : f = 0 ∨ f = 1) : ((rbyte f).toNat : Int) = f + 48 := by
  rcases h with rfl | rfl <;> decide
theorem one_text (c : UInt8) : strOfNums [((c.toNat : Nat) : Int)] = (⟨#[c]⟩ : ByteArray) := strOf_nums [c]
def okRun (p : S40) : Prop := (p.f0 = 0 ∨ p.f0 = 1) ∧ 0 ≤ p.f1 ∧ p.f1 ≤ 1048576
theorem expd_app (x y : List S40) : expd (x ++ y) = expd x ++ expd y := by simp [expd]
theorem expd_take (X : List S40) (i : Nat) (h : i < X.length) : expd (X.take (i + 1)) = expd (X.take i) ++ List.replicate X[i].f1.toNat (rbyte X[i].f0) := by
  rw [List.take_succ_eq_append_getElem h, expd_snoc]
theorem expd_take_len (X : List S40) (i : Nat) : (expd (X.take i)).length ≤ (expd X).length := by
  have : expd X = expd (X.take i) ++ expd (X.drop i) := by rw [← expd_app, List.take_append_drop]
  rw [this, List.length_append]; omega
theorem ofRuns_l0 (X : List S40) (hX : X.length ≤ 1048576) (hok : ∀ p ∈ X, okRun p) (hz : (expd X).length ≤ 1048576) (d : Nat) : ∀ (k i : Nat), i ≤ X.length → X.length - i = d → d < k →
    impl_ofRuns.l0 k (txt (expd (X.take i))) X (X.length : Int) (i : Int) = some (txt (expd X)) := by
  induction d with
  | zero =>
    intro k i hi hd hk
    obtain ⟨k, rfl⟩ := pred_of_lt hk
    simp only [impl_ofRuns.l0]
    rw [if_neg (by omega), List.take_of_length_le (by omega)]
  | succ d ih =>
    intro k i hi hd hk
    obtain ⟨k, rfl⟩ := pred_of_lt hk
    have hlt : i < X.length := by omega
    obtain ⟨h1, h2, h3⟩ := hok _ (List.getElem_mem hlt)
    have n := ih k (i + 1) (by omega) (by omega) (by omega)
    have e1 : wrap64 ((i : Int) + 1) = ((i + 1 : Nat) : Int) := by rw [wr (by omega) (by omega)]; omega
    have hb := rbyte_num h1
    have e2 : (wrap64 (48 + X[i].f0)) % 256 = ((rbyte X[i].f0).toNat : Int) := by
      clear e1; rw [wr (by omega) (by omega)]; omega
    have l1 := expd_take_len X i
    have l2 := expd_take_len X (i + 1)
    rw [expd_take X i hlt] at n l2
    rw [← txt_app] at n
    rw [List.length_append] at l2
    simp only [impl_ofRuns.l0, rdP_get X i hlt, e1, e2, one_text]
    rw [if_pos (by omega), if_pos (by omega), if_pos (by omega), repeat_eq _ _ h2 h3]
    simp only [Option.bind_some]
    rw [if_pos (by rw [txt_size, txt_size]; omega)]
    exact n
theorem ofRuns_eq (X : List S40) (hX : X.length ≤ 1048576) (hok : ∀ p ∈ X, okRun p) (hz : (expd X).length ≤ 1048576) (k : Nat) (hk : X.length < k) : impl_ofRuns.f k X = some (txt (expd X)) :=
  ofRuns_l0 X hX hok hz X.length k 0 (by omega) (by omega) hk
theorem rns_ok {L : List UInt8} (h : L.all onOff = true) (hl : L.length ≤ 1048576) : ∀ p ∈ rns L, okRun p := by
  intro p hp
  obtain ⟨⟨c, hc, h0⟩, h1, h2⟩ := rns_all L p hp
  refine ⟨?_, by omega, by omega⟩
  rcases onOff_of h hc with rfl | rfl
  · left; rw [h0]; decide
  · right; rw [h0]; decide
/-! a list that is turned in place, element after element -/
def turnd (g : S40 → S40) (X : List S40) (i : Nat) : List S40 := (X.take i).map g ++ X.drop i
theorem turnd_len (g : S40 → S40) (X : List S40) (i : Nat) (h : i ≤ X.length) : (turnd g X i).length = X.length := by
  unfold turnd; rw [List.length_append, List.length_map, List.length_take, List.length_drop]; omega
theorem turnd_rd (g : S40 → S40) (X : List S40) (i : Nat) (h : i < X.length) : rd_T40 (turnd g X i) (i : Int) = X[i] := by
  have hl : ((X.take i).map g).length = i := by rw [List.length_map, List.length_take]; omega
  unfold turnd rd_T40
  rw [Int.toNat_natCast, List.getD_eq_getElem?_getD, List.getElem?_append_right (by omega), hl, Nat.sub_self, List.drop_eq_getElem_cons h]
  rfl
theorem turnd_set (g : S40 → S40) (X : List S40) (i : Nat) (h : i < X.length) : (turnd g X i).set i (g X[i]) = turnd g X (i + 1) := by
  have hl : ((X.take i).map g).length = i := by rw [List.length_map, List.length_take]; omega
  unfold turnd
  rw [List.set_append_right _ _ (by omega), hl, Nat.sub_self, List.drop_eq_getElem_cons h, List.set_cons_zero, List.take_succ_eq_append_getElem h, List.map_append, List.append_assoc]
  rfl
theorem turnd_zero (g : S40 → S40) (X : List S40) : turnd g X 0 = X := by simp [turnd]
theorem turnd_all (g : S40 → S40) (X : List S40) (i : Nat) (h : X.length ≤ i) : turnd g X i = X.map g := by
  unfold turnd; rw [List.take_of_length_le h, List.drop_eq_nil_of_le h, List.append_nil]
def gk (k : Int) (p : S40) : S40 := ⟨p.f0, wrap64 (p.f1 * k)⟩
theorem iStr_l0 (X : List S40) (hX : X.length ≤ 1048576) (a1 : Int) (k' : Nat) (r : ByteArray) (hr : ∀ k, k' ≤ k → impl_ofRuns.f k (X.map (gk a1)) = some r) (d : Nat) : ∀ (k i : Nat), i ≤ X.length → X.length - i = d → d + k' < k →
    impl_StretchLine.l0 k a1 (turnd (gk a1) X i) (X.length : Int) (i : Int) = some (r, true) := by
  induction d with
  | zero =>
    intro k i hi hd hk
    obtain ⟨k, rfl⟩ := pred_of_lt hk
    simp only [impl_StretchLine.l0]
    rw [if_neg (by omega), turnd_all _ _ _ (by omega), hr k (by omega)]; rfl
  | succ d ih =>
    intro k i hi hd hk
    obtain ⟨k, rfl⟩ := pred_of_lt hk
    have hlt : i < X.length := by omega
    have n := ih k (i + 1) (by omega) (by omega) (by omega)
    have e1 : wrap64 ((i : Int) + 1) = ((i + 1 : Nat) : Int) := by rw [wr (by omega) (by omega)]; omega
    simp only [impl_StretchLine.l0, turnd_rd _ X i hlt, e1, Int.toNat_natCast, turnd_len _ X i hi]
    rw [if_pos (by omega), if_pos (by omega), if_pos (by omega)]
    rw [← turnd_set _ X i hlt] at n
    exact n
theorem extract_one (s : ByteArray) (i : Nat) (h : i < s.size) : s.extract i (i + 1) = (⟨#[s.data.toList[i]'(by rw [size_data]; exact h)]⟩ : ByteArray) := by
  apply ByteArray.ext
  apply Array.toList_inj.1
  have hl : i < s.data.toList.length := by rw [size_data]; exact h
  rw [ByteArray.data_extract, Array.toList_extract, List.extract_eq_take_drop]
  show (s.data.toList.drop i).take (i + 1 - i) = [_]
  rw [← List.drop_take, List.take_succ_eq_append_getElem hl, List.drop_append_of_le_length (by rw [List.length_take]; omega), List.drop_eq_nil_of_le (by rw [List.length_take]; omega)]
  rfl
theorem flat_len (m : Nat) : ∀ L : List UInt8, (L.flatMap fun c => List.replicate m c).length = L.length * m
  | [] => by simp
  | c :: L => by rw [List.flatMap_cons, List.length_append, List.length_replicate, flat_len m L, List.length_cons, Nat.succ_mul, Nat.add_comm]
theorem sStr_l0 (s : ByteArray) (hs : s.size ≤ 200) (a1 : Int) (h1 : 1 ≤ a1) (h9 : a1 ≤ 9) (d : Nat) : ∀ (k i : Nat), i ≤ s.size → s.size - i = d → d + 20 < k →
    spec_StretchLine.l0 k s a1 (txt ((s.data.toList.take i).flatMap fun c => List.replicate a1.toNat c)) (i : Int) = some (txt (s.data.toList.flatMap fun c => List.replicate a1.toNat c), true) := by
  have hsz := size_data s
  induction d with
  | zero =>
    intro k i hi hd hk
    obtain ⟨k, rfl⟩ := pred_of_lt hk
    simp only [spec_StretchLine.l0]
    rw [if_neg (by omega), List.take_of_length_le (by omega)]
  | succ d ih =>
    intro k i hi hd hk
    obtain ⟨k, rfl⟩ := pred_of_lt hk
    have hlt : i < s.data.toList.length := by omega
    have n := ih k (i + 1) (by omega) (by omega) (by omega)
    have e1 : wrap64 ((i : Int) + 1) = ((i + 1 : Nat) : Int) := by rw [wr (by omega) (by omega)]; omega
    rw [List.take_succ_eq_append_getElem hlt, List.flatMap_append, ← txt_app] at n
    simp only [List.flatMap_cons, List.flatMap_nil, List.append_nil] at n
    have hlen : ((s.data.toList.take i).flatMap fun c => List.replicate a1.toNat c).length = i * a1.toNat := by
      rw [flat_len, List.length_take]
      congr 1
      omega
    have hle : i * a1.toNat ≤ 200 * 9 := Nat.mul_le_mul (by omega) (by omega)
    simp only [spec_StretchLine.l0, e1, Int.toNat_natCast]
    rw [if_pos (by omega), if_pos (by omega), if_pos (by omega), if_pos (by omega), extract_one s i (by omega), many_eq _ a1 (by omega) (by omega) k (by omega)]
    simp only [Option.bind_some]
    rw [if_pos (by rw [txt_size, txt_size, hlen, List.length_replicate]; omega)]
    exact n
theorem rep_flat (c : UInt8) (k : Nat) : ∀ n, (List.replicate n c).flatMap (fun c => List.replicate k c) = List.replicate (n * k) c
  | 0 => by simp
  | n + 1 => by
    rw [List.replicate_succ, List.flatMap_cons, rep_flat c k n, List.replicate_append_replicate, Nat.succ_mul, Nat.add_comm]
theorem expd_gk (a1 : Int) (h1 : 1 ≤ a1) (h9 : a1 ≤ 9) : ∀ (X : List S40), (∀ p ∈ X, okRun p) → expd (X.map (gk a1)) = (expd X).flatMap fun c => List.replicate a1.toNat c
  | [], _ => rfl
  | p :: X, h => by
    have ih := expd_gk a1 h1 h9 X (fun p hp => h p (by simp [hp]))
    obtain ⟨_, h2, h3⟩ := h p (by simp)
    obtain ⟨n, hn⟩ : ∃ n : Nat, p.f1 = (n : Int) := ⟨p.f1.toNat, by omega⟩
    obtain ⟨m, hm⟩ : ∃ m : Nat, a1 = (m : Int) := ⟨a1.toNat, by omega⟩
    have e : (wrap64 (p.f1 * a1)).toNat = p.f1.toNat * a1.toNat := by
      have hle : n * m ≤ 1048576 * 9 := Nat.mul_le_mul (by omega) (by omega)
      rw [hn, hm, ← Int.natCast_mul, wr (by omega) (by omega)]
      rfl
    have e2 : expd (p :: X) = List.replicate p.f1.toNat (rbyte p.f0) ++ expd X := rfl
    rw [e2, List.flatMap_append, rep_flat, ← ih, ← e]
    rfl
theorem FnExactStretchLine : laws_FnExactStretchLine.Pure := by
  intro s a1 hs hwf
  by_cases h : (s.size : Int) > 1048576
  · refine ⟨0, ?_⟩
    unfold laws_FnExactStretchLine.f
    rw [if_pos h]
  · obtain ⟨M, hM⟩ : ∃ M : Nat, 4194400 ≤ M := ⟨4194400, Nat.le_refl _⟩
    refine ⟨M + 1, ?_⟩
    unfold laws_FnExactStretchLine.f spec_StretchLine.f impl_StretchLine.f
    rw [if_neg h, l4Line_eq s (by omega) _ (by omega), implLine_eq]
    simp only [Option.bind_some, l1In_eq, in_eq]
    by_cases hl : isLn s = true
    · obtain ⟨hz, hb⟩ := isLn_all hl
      rw [if_pos hl, if_pos hl]
      by_cases hi : (decide (1 ≤ a1) && decide (a1 ≤ 9)) = true
      · rw [if_pos hi, if_pos hi]
        simp only [Bool.and_eq_true, decide_eq_true_eq] at hi
        have hsz := size_data s
        by_cases hg : wrap64 ((s.size : Int) * a1) > 200
        · have hd : decide (wrap64 ((s.size : Int) * a1) > 200) = true := by simpa using hg
          rw [hd]
          simp only [spec_StretchLine.j0, impl_StretchLine.j0, if_true, Option.bind_some]
          simp
        · have hd : decide (wrap64 ((s.size : Int) * a1) > 200) = false := by simpa using hg
          rw [hd]
          have hlen := rns_len s.data.toList
          have hok := rns_ok hb (by omega)
          have S := sStr_l0 s hz a1 hi.1 hi.2 s.size M 0 (by omega) (by omega) (by omega)
          rw [List.take_zero, List.flatMap_nil, Int.natCast_zero] at S
          have ex : expd ((rns s.data.toList).map (gk a1)) = s.data.toList.flatMap fun c => List.replicate a1.toNat c := by
            rw [expd_gk a1 hi.1 hi.2 _ hok, expd_rns]
          have hlx : (s.data.toList.flatMap fun c => List.replicate a1.toNat c).length = s.size * a1.toNat := by
            rw [flat_len, hsz]
          have hle : s.size * a1.toNat ≤ 200 * 9 := Nat.mul_le_mul (by omega) (by omega)
          have hok2 : ∀ p ∈ (rns s.data.toList).map (gk a1), okRun p := by
            intro p hp
            obtain ⟨q, hq, rfl⟩ := List.mem_map.1 hp
            obtain ⟨o1, o2, o3⟩ := hok q hq
            have q3 := (rns_all _ q hq).2.2
            obtain ⟨n, hn⟩ : ∃ n : Nat, q.f1 = (n : Int) := ⟨q.f1.toNat, by omega⟩
            obtain ⟨m, hm⟩ : ∃ m : Nat, a1 = (m : Int) := ⟨a1.toNat, by omega⟩
            have hle : n * m ≤ 200 * 9 := Nat.mul_le_mul (by omega) (by omega)
            have e : wrap64 (q.f1 * a1) = ((n * m : Nat) : Int) := by
              rw [hn, hm, ← Int.natCast_mul, wr (by omega) (by omega)]
            refine ⟨o1, ?_, ?_⟩
            · show 0 ≤ wrap64 (q.f1 * a1); rw [e]; omega
            · show wrap64 (q.f1 * a1) ≤ _; rw [e]; omega
          have I := iStr_l0 (rns s.data.toList) (by omega) a1 300 (txt (s.data.toList.flatMap fun c => List.replicate a1.toNat c)) (fun k hk => by
            rw [ofRuns_eq _ (by rw [List.length_map]; omega) hok2 (by rw [ex, hlx]; omega) k (by rw [List.length_map]; omega), ex]) (rns s.data.toList).length M 0 (by omega) (by omega) (by omega)
          rw [turnd_zero, Int.natCast_zero] at I
          have R := iRuns_eq s (by omega) hb M (by omega)
          have S' : spec_StretchLine.l0 M s a1 (⟨#[]⟩ : ByteArray) 0 = _ := S
          simp only [spec_StretchLine.j0, impl_StretchLine.j0, Bool.false_eq_true, if_false, S', R, Option.bind_some, I]
          simp
      · rw [if_neg hi, if_neg hi]
        simp only [spec_StretchLine.j0, impl_StretchLine.j0, if_true, Option.bind_some]
        simp
    · rw [if_neg hl, if_neg hl]
      simp only [spec_StretchLine.j0, impl_StretchLine.j0, if_true, Option.bind_some]
      simp

end Go.Proofs.YtlfheofodhfbaaaDoor.Pure
