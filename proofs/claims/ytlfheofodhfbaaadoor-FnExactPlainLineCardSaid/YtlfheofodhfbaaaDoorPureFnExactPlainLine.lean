/- PlainLine of the program and of the reference answer alike at every text. -/
import Derived.Test.YtlfheofodhfbaaaDoorHFnExactPlainLinex5
namespace Go.Proofs.YtlfheofodhfbaaaDoor.Pure
open Go.RowKit Go.Proofs.YtlfheofodhfbaaaDoor.HFnExactPlainLine Go.Proofs.YtlfheofodhfbaaaDoorW.PrintWords Go.Proofs.YtlfheofodhfbaaaDoorW.PrintLast
set_option linter.unusedVariables false
set_option linter.unusedSimpArgs false
set_option linter.unnecessarySimpa false

theorem wr {i : Int} (h0 : -9223372036854775808 ≤ i) (h1 : i ≤ 9223372036854775807) : wrap64 i = i := by unfold wrap64; omega
theorem rd_nat (xs : List Int) (i : Nat) : rd xs (i : Int) = xs.getD i 0 := by simp [rd]
theorem rd_get (xs : List Int) (i : Nat) (h : i < xs.length) : rd xs (i : Int) = xs[i] := by simp [rd, h]
theorem pred_of_lt {d k : Nat} (h : d < k) : ∃ m, k = m + 1 := ⟨k - 1, by omega⟩
/-! bytes of a text -/
theorem size_data (s : ByteArray) : s.data.toList.length = s.size := Array.length_toList
theorem bt_nat (s : ByteArray) (i : Nat) (h : i < s.size) : bt s (i : Int) = ((s.data.toList[i]'(by rw [size_data]; exact h)).toNat : Int) := by
  have := bt_at s (i : Int) (by simpa using h)
  rw [← this]
  rfl
theorem byte_num (b c : UInt8) (n : Nat) (hc : c.toNat = n) : ((b.toNat : Int) = (n : Int)) ↔ b = c := by
  constructor
  · intro h
    exact UInt8.toNat_inj.1 (by omega)
  · rintro rfl; omega
/-! what is left when bytes of a set are taken off both ends -/
theorem dropWhile_nil {p : UInt8 → Bool} (l : List UInt8) : l.dropWhile p = [] ↔ l.all p = true := by
  induction l with
  | nil => simp
  | cons a l ih =>
    rw [List.dropWhile_cons]
    by_cases h : p a = true
    · rw [if_pos h, ih]; simp [h]
    · rw [if_neg h]; simp [h]
theorem trimS_nil (l cs : List UInt8) : Lib.trimS l cs = [] ↔ l.all (cs.contains ·) = true := by
  unfold Lib.trimS Lib.trimLeftS Lib.trimRightS
  rw [dropWhile_nil]
  constructor
  · intro h
    by_cases hr : (l.reverse.dropWhile (cs.contains ·)) = []
    · rw [dropWhile_nil, List.all_reverse] at hr; exact hr
    · exfalso
      rw [List.all_reverse] at h
      cases hd : l.reverse.dropWhile (cs.contains ·) with
      | nil => exact hr hd
      | cons a t =>
        have ha : cs.contains a = false := by
          have := List.head?_dropWhile_not (cs.contains ·) l.reverse
          rw [hd] at this
          simpa using this
        rw [hd] at h
        simp at h
        rw [List.contains_eq_mem] at ha
        simp [h.1] at ha
  · intro h
    have : (l.reverse.dropWhile (cs.contains ·)) = [] := by
      rw [dropWhile_nil, List.all_reverse]; exact h
    rw [this]; rfl
theorem toList_nil (l : List UInt8) : ((⟨l.toArray⟩ : ByteArray).toList == ([] : List UInt8)) = l.isEmpty := by
  have : (⟨l.toArray⟩ : ByteArray).toList = l := by
    rw [ByteArray.toList_eq]
  rw [this]
  cases l <;> rfl
/-! a line, as both sides ask for it -/
def onOff (b : UInt8) : Bool := b == 48 || b == 49
def isLn (s : ByteArray) : Bool := decide (s.size ≤ 200) && s.data.toList.all onOff
theorem bt_is (s : ByteArray) (i : Nat) (h : i < s.size) (c : UInt8) (n : Int) (hc : (c.toNat : Int) = n) : (bt s (i : Int) = n) ↔ (s.data.toList[i]'(by rw [size_data]; exact h)) = c := by
  rw [bt_nat s i h, ← hc]
  constructor
  · intro e; exact UInt8.toNat_inj.1 (by omega)
  · intro e; rw [e]
theorem l4Line_l0 (s : ByteArray) (hs : s.size ≤ 1048576) (d : Nat) : ∀ (k i : Nat), i ≤ s.size → s.size - i = d → 2 * d + 1 < k → (s.data.toList.take i).all onOff = true → spec_l4Line.l0 k s (i : Int) = some (isLn s) := by
  have hsz := size_data s
  induction d with
  | zero =>
    intro k i hi hd hk ht
    obtain ⟨k, rfl⟩ := pred_of_lt hk
    obtain ⟨k, rfl⟩ : ∃ m, k = m + 1 := ⟨k - 1, by omega⟩
    simp only [spec_l4Line.l0]; rw [if_neg (by omega)]
    simp only [spec_l4Line.j1]; rw [if_neg (by simp)]
    rw [List.take_of_length_le (by omega)] at ht
    have : decide ((s.size : Int) ≤ 200) = decide (s.size ≤ 200) := by rw [decide_eq_decide]; omega
    rw [this]; simp [isLn, ht]
  | succ d ih =>
    intro k i hi hd hk ht
    obtain ⟨k, rfl⟩ := pred_of_lt hk
    obtain ⟨k, rfl⟩ : ∃ m, k = m + 1 := ⟨k - 1, by omega⟩
    have c1 : (i : Int) < (s.size : Int) := by omega
    have c2 : (0 : Int) ≤ (i : Int) := by omega
    have e : wrap64 ((i : Int) + 1) = ((i + 1 : Nat) : Int) := by rw [wr (by omega) (by omega)]; omega
    simp only [spec_l4Line.l0, c1, if_true, spec_l4Line.j1]
    by_cases h200 : (i : Int) ≤ 200
    · have hd2 : decide ((i : Int) ≤ 200) = true := by simpa using h200
      simp only [hd2, c2, if_true, e]
      have hlt : i < s.data.toList.length := by omega
      have next : onOff (s.data.toList[i]) = true → spec_l4Line.l0 k s ((i + 1 : Nat) : Int) = some (isLn s) := fun hb => ih k (i + 1) (by omega) (by omega) (by omega) (by
        rw [List.take_succ_eq_append_getElem hlt, List.all_append, ht]; simp only [List.all_cons, List.all_nil, hb, Bool.and_true])
      by_cases h0 : bt s (i : Int) = 48
      · rw [if_pos h0]
        exact next (by rw [bt_is s i (by omega) 48 48 (by decide)] at h0; rw [h0]; decide)
      · rw [if_neg h0]
        by_cases h1 : bt s (i : Int) = 49
        · rw [if_pos h1]
          exact next (by rw [bt_is s i (by omega) 49 49 (by decide)] at h1; rw [h1]; decide)
        · rw [if_neg h1]
          rw [bt_is s i (by omega) 48 48 (by decide)] at h0
          rw [bt_is s i (by omega) 49 49 (by decide)] at h1
          have hm : s.data.toList[i] ∈ s.data.toList := List.getElem_mem _
          have hf : s.data.toList.all onOff = false := by
            rw [List.all_eq_false]; exact ⟨_, hm, by simp only [onOff, Bool.or_eq_true, beq_iff_eq, h0, h1, or_self, not_false_eq_true]⟩
          simp [isLn, hf]
    · have hd2 : decide ((i : Int) ≤ 200) = false := by simpa using h200
      simp only [hd2, Bool.false_eq_true, if_false]
      have : decide ((s.size : Int) ≤ 200) = false := by simp; omega
      rw [this]
      simp [isLn, show ¬ s.size ≤ 200 by omega]
theorem l4Line_eq (s : ByteArray) (hs : s.size ≤ 1048576) (k : Nat) (hk : 2 * s.size + 1 < k) : spec_l4Line.f k s = some (isLn s) := by
  unfold spec_l4Line.f
  exact l4Line_l0 s hs s.size k 0 (by omega) (by omega) hk (by simp)
theorem implLine_eq (s : ByteArray) : impl_IsLine.f s = some (isLn s) := by
  unfold impl_IsLine.f
  by_cases h : (s.size : Int) ≤ 200
  · rw [if_pos h]
    unfold strings_Trim.f
    rw [if_pos (by omega), if_pos (by decide), if_pos (by decide)]
    simp only [Option.bind_some]
    rw [toList_nil]
    have e : (Lib.trimS s.data.toList [48, 49]).isEmpty = s.data.toList.all onOff := by
      rw [Bool.eq_iff_iff, List.isEmpty_iff, trimS_nil]
      have : (fun x => [48, 49].contains x) = onOff := by
        funext x
        simp [onOff, List.contains_eq_mem]
        rfl
      rw [this]
    show some (Lib.trimS s.data.toList [48, 49]).isEmpty = _
    rw [e]
    simp [isLn, show s.size ≤ 200 by omega]
  · rw [if_neg h]; simp [isLn, show ¬ s.size ≤ 200 by omega]
/-! a text as a list of bytes, and as a list of numbers -/
def txt (l : List UInt8) : ByteArray := ⟨l.toArray⟩
def numsOf (l : List UInt8) : List Int := l.map fun b => (b.toNat : Int)
theorem txt_data (l : List UInt8) : (txt l).data.toList = l := rfl
theorem txt_size (l : List UInt8) : (txt l).size = l.length := by rw [← size_data, txt_data]
theorem txt_of (s : ByteArray) : txt s.data.toList = s := rfl
theorem txt_app (l m : List UInt8) : txt l ++ txt m = txt (l ++ m) := by
  apply ByteArray.ext
  apply Array.toList_inj.1
  rw [ByteArray.data_append, Array.toList_append]
  rfl
theorem strOf_nums (l : List UInt8) : strOfNums (numsOf l) = txt l := by
  unfold strOfNums numsOf txt
  rw [List.map_map]
  congr 2
  rw [List.map_congr_left (g := id)]
  · simp
  · intro b _
    simp
theorem nums_app (l : List UInt8) (b : UInt8) (n : Int) (h : (b.toNat : Int) = n) : numsOf l ++ [n] = numsOf (l ++ [b]) := by
  simp [numsOf, h]
theorem nums_len (l : List UInt8) : (numsOf l).length = l.length := by simp [numsOf]
/-! a text said over and over -/
theorem repeat_one (c : UInt8) : ∀ n, Lib.repeatL [c] n = List.replicate n c
  | 0 => rfl
  | n + 1 => by rw [Lib.repeatL, repeat_one c n]; rfl
theorem many_l0 (c : UInt8) (n : Nat) (hn : n ≤ 1048576) (d : Nat) : ∀ (k i : Nat), i ≤ n → n - i = d → d < k → spec_l4Many.l0 k ⟨#[c]⟩ (n : Int) (txt (List.replicate i c)) (i : Int) = some (txt (List.replicate n c)) := by
  induction d with
  | zero =>
    intro k i hi hd hk
    obtain ⟨k, rfl⟩ := pred_of_lt hk
    simp only [spec_l4Many.l0]; rw [if_neg (by omega), show i = n by omega]
  | succ d ih =>
    intro k i hi hd hk
    obtain ⟨k, rfl⟩ := pred_of_lt hk
    have e1 : wrap64 ((i : Int) + 1) = ((i + 1 : Nat) : Int) := by rw [wr (by omega) (by omega)]; omega
    have e2 : txt (List.replicate i c) ++ (⟨#[c]⟩ : ByteArray) = txt (List.replicate (i + 1) c) := by
      show txt (List.replicate i c) ++ txt [c] = _
      rw [txt_app, List.replicate_succ']
    have hz : (txt (List.replicate i c)).size = i := by rw [txt_size, List.length_replicate]
    have h1 : (⟨#[c]⟩ : ByteArray).size = 1 := rfl
    simp only [spec_l4Many.l0]
    rw [if_pos (by omega), if_pos (by omega), e1, e2]
    exact ih k (i + 1) (by omega) (by omega) (by omega)
theorem many_eq (c : UInt8) (n : Int) (h0 : 0 ≤ n) (h1 : n ≤ 1048576) (k : Nat) (hk : n.toNat < k) : spec_l4Many.f k ⟨#[c]⟩ n = some (txt (List.replicate n.toNat c)) := by
  unfold spec_l4Many.f
  have := many_l0 c n.toNat (by omega) n.toNat k 0 (by omega) (by omega) hk
  rw [Int.toNat_of_nonneg h0] at this
  exact this
theorem repeat_eq (c : UInt8) (n : Int) (h0 : 0 ≤ n) (h1 : n ≤ 1048576) : strings_Repeat.f ⟨#[c]⟩ n = some (txt (List.replicate n.toNat c)) := by
  unfold strings_Repeat.f
  have hz : (⟨#[c]⟩ : ByteArray).size = 1 := rfl
  rw [if_pos h0, if_pos (by omega), if_pos (by rw [hz]; omega)]
  show some (txt (Lib.repeatL [c] n.toNat)) = _
  rw [repeat_one]
/-! the runs of a line -/
def rstep (x : List S40) (c : UInt8) : List S40 :=
  match x.getLast? with
  | none => [⟨(c.toNat : Int) - 48, 1⟩]
  | some p => if p.f0 = (c.toNat : Int) - 48 then x.dropLast ++ [⟨p.f0, p.f1 + 1⟩] else x ++ [⟨(c.toNat : Int) - 48, 1⟩]
def rns (l : List UInt8) : List S40 := l.foldl rstep []
theorem rns_nil : rns [] = [] := rfl
theorem rns_snoc (t : List UInt8) (c : UInt8) : rns (t ++ [c]) = rstep (rns t) c := by simp [rns]
theorem snoc_of {α : Type} (t : List α) (h : t ≠ []) : ∃ u c, t = u ++ [c] := ⟨t.dropLast, t.getLast h, (List.dropLast_concat_getLast h).symm⟩
theorem rstep_snoc (x : List S40) (p : S40) (c : UInt8) : rstep (x ++ [p]) c = if p.f0 = (c.toNat : Int) - 48 then x ++ [⟨p.f0, p.f1 + 1⟩] else x ++ [p] ++ [⟨(c.toNat : Int) - 48, 1⟩] := by
  simp only [rstep, List.getLast?_append, List.getLast?_singleton, Option.some_or, List.dropLast_concat]
/-- a run of a line that ends in b is the last one, of b -/
theorem rns_last (t : List UInt8) : ∀ (u : List UInt8) (b : UInt8), t = u ++ [b] → ∃ (x : List S40) (n : Int), rns t = x ++ [⟨(b.toNat : Int) - 48, n⟩] ∧ 1 ≤ n ∧ n ≤ (t.length : Int) := by
  induction hl : t.length generalizing t with
  | zero => intro u b h; rw [h] at hl; simp at hl
  | succ d ih =>
    intro u b h
    subst h
    rw [rns_snoc]
    by_cases hu : u = []
    · subst hu
      exact ⟨[], 1, rfl, by omega, by simp at hl ⊢; omega⟩
    · obtain ⟨v, c, rfl⟩ := snoc_of u hu
      have hd : (v ++ [c]).length = d := by simpa using hl
      obtain ⟨x, n, hx, h1, h2⟩ := ih (v ++ [c]) hd v c rfl
      rw [hx, rstep_snoc]
      by_cases hc : (c.toNat : Int) - 48 = (b.toNat : Int) - 48
      · exact ⟨x, n + 1, by rw [if_pos hc, hc], by omega, by omega⟩
      · exact ⟨x ++ [⟨(c.toNat : Int) - 48, n⟩], 1, by rw [if_neg hc], by omega, by omega⟩
theorem rns_ne (t : List UInt8) (h : t ≠ []) : rns t ≠ [] := by
  obtain ⟨u, c, rfl⟩ := snoc_of t h
  obtain ⟨x, n, hx, _⟩ := rns_last _ u c rfl
  rw [hx]; simp
theorem rstep_len (x : List S40) (c : UInt8) : (rstep x c).length ≤ x.length + 1 := by
  by_cases h : x = []
  · subst h; simp [rstep]
  · obtain ⟨y, p, rfl⟩ := snoc_of x h
    rw [rstep_snoc]
    split <;> simp
theorem rns_len (t : List UInt8) : (rns t).length ≤ t.length := by
  induction hl : t.length generalizing t with
  | zero => rw [List.length_eq_zero_iff.1 hl]; simp [rns]
  | succ d ih =>
    obtain ⟨u, c, rfl⟩ := snoc_of t (by intro h; rw [h] at hl; simp at hl)
    have := ih u (by simpa using hl)
    have h2 := rstep_len (rns u) c
    rw [rns_snoc]; omega
/-- what holds of all runs: the sign is a byte's, and there is one at least -/
theorem rns_all (t : List UInt8) : ∀ p ∈ rns t, (∃ c ∈ t, p.f0 = (c.toNat : Int) - 48) ∧ 1 ≤ p.f1 ∧ p.f1 ≤ (t.length : Int) := by
  induction hl : t.length generalizing t with
  | zero => rw [List.length_eq_zero_iff.1 hl]; simp [rns]
  | succ d ih =>
    obtain ⟨u, c, rfl⟩ := snoc_of t (by intro h; rw [h] at hl; simp at hl)
    have hu : u.length = d := by simpa using hl
    have I := ih u hu
    rw [rns_snoc]
    by_cases h : rns u = []
    · rw [h]
      intro p hp
      obtain rfl : p = ⟨(c.toNat : Int) - 48, 1⟩ := by simpa [rstep] using hp
      exact ⟨⟨c, by simp, rfl⟩, by show (1 : Int) ≤ 1; omega, by show (1 : Int) ≤ _; omega⟩
    · obtain ⟨y, q, hq⟩ := snoc_of _ h
      rw [hq, rstep_snoc]
      intro p hp
      have old : ∀ p ∈ y ++ [q], (∃ c' ∈ u ++ [c], p.f0 = (c'.toNat : Int) - 48) ∧ 1 ≤ p.f1 ∧ p.f1 ≤ ((d : Nat) : Int) := fun p hp => by
        obtain ⟨⟨c', h1, h2⟩, h3, h4⟩ := I p (by rw [hq]; exact hp)
        exact ⟨⟨c', by simp [h1], h2⟩, h3, by omega⟩
      have hqo := old q (by simp)
      split at hp
      · rename_i he
        rcases List.mem_append.1 hp with h1 | h1
        · obtain ⟨a, b, e⟩ := old p (by simp [h1]); exact ⟨a, b, by omega⟩
        · obtain rfl : p = ⟨q.f0, q.f1 + 1⟩ := by simpa using h1
          refine ⟨⟨c, by simp, he⟩, ?_, ?_⟩
          · show (1 : Int) ≤ q.f1 + 1; omega
          · show q.f1 + 1 ≤ _; omega
      · rcases List.mem_append.1 hp with h1 | h1
        · obtain ⟨a, b, e⟩ := old p h1; exact ⟨a, b, by omega⟩
        · obtain rfl : p = ⟨(c.toNat : Int) - 48, 1⟩ := by simpa using h1
          exact ⟨⟨c, by simp, rfl⟩, by show (1 : Int) ≤ 1; omega, by show (1 : Int) ≤ _; omega⟩
/-- the line of runs -/
def rbyte (f : Int) : UInt8 := UInt8.ofNat (f + 48).toNat
theorem rbyte_of (c : UInt8) : rbyte ((c.toNat : Int) - 48) = c := by
  unfold rbyte
  rw [show (c.toNat : Int) - 48 + 48 = (c.toNat : Int) by omega, Int.toNat_natCast]
  simp
def expd (x : List S40) : List UInt8 := x.flatMap fun p => List.replicate p.f1.toNat (rbyte p.f0)
theorem expd_nil : expd [] = [] := rfl
theorem expd_snoc (x : List S40) (p : S40) : expd (x ++ [p]) = expd x ++ List.replicate p.f1.toNat (rbyte p.f0) := by simp [expd]
theorem expd_rns (t : List UInt8) : expd (rns t) = t := by
  induction hl : t.length generalizing t with
  | zero => rw [List.length_eq_zero_iff.1 hl]; rfl
  | succ d ih =>
    obtain ⟨u, c, rfl⟩ := snoc_of t (by intro h; rw [h] at hl; simp at hl)
    have I := ih u (by simpa using hl)
    rw [rns_snoc]
    by_cases hu : u = []
    · subst hu
      show expd [⟨(c.toNat : Int) - 48, 1⟩] = _
      simp [expd, rbyte_of]
    · obtain ⟨v, b, rfl⟩ := snoc_of u hu
      obtain ⟨x, n, hx, h1, _⟩ := rns_last _ v b rfl
      rw [hx, expd_snoc] at I
      rw [hx, rstep_snoc]
      simp only [rbyte_of] at I
      split
      · rename_i he
        obtain rfl : b = c := by apply UInt8.toNat_inj.1; simp only at he; omega
        rw [expd_snoc]
        simp only [rbyte_of]
        rw [show (n + 1).toNat = n.toNat + 1 by omega, List.replicate_succ', ← List.append_assoc, I]
      · rw [expd_snoc, expd_snoc]
        simp only [rbyte_of]
        rw [I]; rfl
/-! both sides' runs of a line -/
theorem onOff_of {L : List UInt8} (h : L.all onOff = true) {c : UInt8} (hc : c ∈ L) : c = 48 ∨ c = 49 := by
  have := List.all_eq_true.1 h c hc
  simpa [onOff] using this
theorem sign_of {c : UInt8} (h : c = 48 ∨ c = 49) : ((c.toNat : Int) - 48) % 256 = (c.toNat : Int) - 48 := by
  rcases h with rfl | rfl <;> decide
theorem last_at (x : List S40) (p : S40) (hx : x.length ≤ 1048576) : wrap64 (((x ++ [p]).length : Int) - 1) = (x.length : Int) := by
  rw [List.length_append, List.length_singleton, wr (by omega) (by omega)]; omega
theorem last_rd (x : List S40) (p : S40) : rd_T40 (x ++ [p]) (x.length : Int) = p := by simp [rd_T40]
theorem last_set (x : List S40) (p q : S40) : (x ++ [p]).set x.length q = x ++ [q] := by simp
theorem take_snocU (L : List UInt8) (i : Nat) (h : i < L.length) : L.take (i + 1) = L.take i ++ [L[i]] := List.take_succ_eq_append_getElem h
/-- the state behind a step -/
theorem step_of (L : List UInt8) (i : Nat) (h : i + 1 < L.length) : ∃ (x : List S40) (n : Int), 1 ≤ n ∧ n ≤ ((i : Int) + 1) ∧ rns (L.take (i + 1)) = x ++ [⟨(L[i].toNat : Int) - 48, n⟩] ∧
    rns (L.take (i + 2)) = if L[i + 1] = L[i] then x ++ [⟨(L[i].toNat : Int) - 48, n + 1⟩] else x ++ [⟨(L[i].toNat : Int) - 48, n⟩] ++ [⟨(L[i + 1].toNat : Int) - 48, 1⟩] := by
  obtain ⟨x, n, hx, h1, h2⟩ := rns_last (L.take (i + 1)) (L.take i) L[i] (take_snocU L i (by omega))
  refine ⟨x, n, h1, by rw [List.length_take] at h2; omega, hx, ?_⟩
  rw [take_snocU L (i + 1) h, rns_snoc, hx, rstep_snoc]
  by_cases he : L[i + 1] = L[i]
  · rw [if_pos he, if_pos (by simp only [he])]
  · rw [if_neg he, if_neg (by
      intro e; apply he; apply UInt8.toNat_inj.1; simp only at e; omega)]
theorem rns_take_len (L : List UInt8) (i : Nat) : (rns (L.take i)).length ≤ i := by
  have := rns_len (L.take i)
  rw [List.length_take] at this; omega
theorem isLn_all {s : ByteArray} (h : isLn s = true) : s.size ≤ 200 ∧ s.data.toList.all onOff = true := by
  simpa [isLn] using h
theorem sRuns_l0 (s : ByteArray) (hs : s.size ≤ 1048576) (hb : s.data.toList.all onOff = true) (d : Nat) : ∀ (k i : Nat), i ≤ s.size → s.size - i = d → d < k →
    spec_l4Runs.l0 k s (rns (s.data.toList.take i)) (i : Int) = some (rns s.data.toList) := by
  have hsz := size_data s
  induction d with
  | zero =>
    intro k i hi hd hk
    obtain ⟨k, rfl⟩ := pred_of_lt hk
    simp only [spec_l4Runs.l0]
    rw [if_neg (by omega), List.take_of_length_le (by omega)]
  | succ d ih =>
    intro k i hi hd hk
    obtain ⟨k, rfl⟩ := pred_of_lt hk
    have hlt : i < s.data.toList.length := by omega
    have n := ih k (i + 1) (by omega) (by omega) (by omega)
    have e1 : wrap64 ((i : Int) + 1) = ((i + 1 : Nat) : Int) := by rw [wr (by omega) (by omega)]; omega
    have hm := onOff_of hb (List.getElem_mem hlt)
    have hlen := rns_take_len s.data.toList i
    simp only [spec_l4Runs.l0, e1]
    rw [if_pos (by omega)]
    by_cases h0 : (i : Int) > 0
    · obtain ⟨j, rfl⟩ : ∃ j, i = j + 1 := ⟨i - 1, by omega⟩
      obtain ⟨x, m, h1, h2, hx, hy⟩ := step_of s.data.toList j (by omega)
      have e2 : wrap64 (((j + 1 : Nat) : Int) - 1) = ((j : Nat) : Int) := by clear e1; rw [wr (by omega) (by omega)]; omega
      rw [if_pos h0, if_pos (by omega), e2, if_pos (by omega), if_pos (by omega), bt_nat s (j + 1) (by omega), bt_nat s j (by omega)]
      rw [hy] at n
      by_cases he : s.data.toList[j + 1] = s.data.toList[j]
      · rw [if_pos he] at n
        rw [if_pos (by rw [he]), hx]
        have hxl : x.length ≤ 1048576 := by rw [hx, List.length_append] at hlen; omega
        rw [last_at x _ hxl, if_pos (by omega), if_pos (by rw [List.length_append, List.length_singleton]; omega), last_rd, Int.toNat_natCast, last_set, wr (i := m + 1) (by omega) (by omega)]
        exact n
      · rw [if_neg he] at n
        rw [if_neg (by intro e; apply he; apply UInt8.toNat_inj.1; omega), if_pos (by omega), sign_of hm, hx]
        exact n
    · obtain rfl : i = 0 := by omega
      rw [if_neg h0, if_pos (by omega), if_pos (by omega), bt_nat s 0 (by omega), sign_of hm]
      have : rns (s.data.toList.take 1) = rns (s.data.toList.take 0) ++ [⟨(s.data.toList[0].toNat : Int) - 48, 1⟩] := by
        rw [take_snocU s.data.toList 0 hlt, rns_snoc]; rfl
      rw [← this]; exact n
theorem sRuns_eq (s : ByteArray) (hs : s.size ≤ 1048576) (hb : s.data.toList.all onOff = true) (k : Nat) (hk : s.size < k) : spec_l4Runs.f k s = some (rns s.data.toList) :=
  sRuns_l0 s hs hb s.size k 0 (by omega) (by omega) hk
theorem iRuns_l0 (s : ByteArray) (hs : s.size ≤ 1048576) (hb : s.data.toList.all onOff = true) (d : Nat) : ∀ (k i : Nat), i ≤ s.size → s.size - i = d → d < k →
    impl_runsOf.l0 k s (rns (s.data.toList.take i)) (s.size : Int) (i : Int) = some (rns s.data.toList) := by
  have hsz := size_data s
  induction d with
  | zero =>
    intro k i hi hd hk
    obtain ⟨k, rfl⟩ := pred_of_lt hk
    simp only [impl_runsOf.l0]
    rw [if_neg (by omega), List.take_of_length_le (by omega)]
  | succ d ih =>
    intro k i hi hd hk
    obtain ⟨k, rfl⟩ := pred_of_lt hk
    have hlt : i < s.data.toList.length := by omega
    have n := ih k (i + 1) (by omega) (by omega) (by omega)
    have e1 : wrap64 ((i : Int) + 1) = ((i + 1 : Nat) : Int) := by rw [wr (by omega) (by omega)]; omega
    have hm := onOff_of hb (List.getElem_mem hlt)
    have hlen := rns_take_len s.data.toList i
    simp only [impl_runsOf.l0, e1, Option.bind_some]
    rw [if_pos (by omega)]
    by_cases h0 : (i : Int) = 0
    · obtain rfl : i = 0 := by omega
      rw [if_pos (by omega), if_pos (by omega), if_pos (by omega), bt_nat s 0 (by omega), sign_of hm]
      have : rns (s.data.toList.take 1) = rns (s.data.toList.take 0) ++ [⟨(s.data.toList[0].toNat : Int) - 48, 1⟩] := by
        rw [take_snocU s.data.toList 0 hlt, rns_snoc]; rfl
      have hz : (rns (s.data.toList.take 0)).length ≤ 1048576 := by omega
      rw [if_pos (by omega), last_at _ _ hz, if_pos (by omega), if_pos (by rw [List.length_append, List.length_singleton]; omega), last_rd, Int.toNat_natCast, last_set, wr (i := 0 + 1) (by omega) (by omega), Int.zero_add, ← this]
      exact n
    · obtain ⟨j, rfl⟩ : ∃ j, i = j + 1 := ⟨i - 1, by omega⟩
      obtain ⟨x, m, h1, h2, hx, hy⟩ := step_of s.data.toList j (by omega)
      have e2 : wrap64 (((j + 1 : Nat) : Int) - 1) = ((j : Nat) : Int) := by clear e1; rw [wr (by omega) (by omega)]; omega
      rw [if_neg h0, if_pos (by omega), if_pos (by omega), e2, if_pos (by omega), if_pos (by omega), bt_nat s (j + 1) (by omega), bt_nat s j (by omega)]
      rw [hy] at n
      by_cases he : s.data.toList[j + 1] = s.data.toList[j]
      · rw [if_pos he] at n
        rw [if_pos (by rw [he]), hx]
        have hxl : x.length ≤ 1048576 := by rw [hx, List.length_append] at hlen; omega
        rw [last_at x _ hxl, if_pos (by omega), if_pos (by rw [List.length_append, List.length_singleton]; omega), last_rd, Int.toNat_natCast, last_set, wr (i := m + 1) (by omega) (by omega)]
        exact n
      · rw [if_neg he] at n
        have hz : (rns (s.data.toList.take (j + 1))).length ≤ 1048576 := by omega
        rw [if_neg (by intro e; apply he; apply UInt8.toNat_inj.1; omega), if_pos (by omega), sign_of hm, last_at _ _ hz, if_pos (by omega), if_pos (by rw [List.length_append, List.length_singleton]; omega), last_rd, Int.toNat_natCast, last_set, wr (i := 0 + 1) (by omega) (by omega), Int.zero_add, hx]
        exact n
theorem iRuns_eq (s : ByteArray) (hs : s.size ≤ 1048576) (hb : s.data.toList.all onOff = true) (k : Nat) (hk : s.size < k) : impl_runsOf.f k s = some (rns s.data.toList) :=
  iRuns_l0 s hs hb s.size k 0 (by omega) (by omega) hk
theorem rstep_head (x : List S40) (c : UInt8) (g : Int) (h : ∃ n, x.head? = some ⟨g, n⟩) : ∃ n, (rstep x c).head? = some ⟨g, n⟩ := by
  obtain ⟨n, h⟩ := h
  have hne : x ≠ [] := by intro e; rw [e] at h; cases h
  obtain ⟨y, p, rfl⟩ := snoc_of x hne
  rw [rstep_snoc]
  cases y with
  | nil =>
    obtain rfl : p = ⟨g, n⟩ := by simpa using h
    split
    · exact ⟨n + 1, rfl⟩
    · exact ⟨n, rfl⟩
  | cons q y =>
    obtain rfl : q = ⟨g, n⟩ := by simpa using h
    split
    · exact ⟨n, rfl⟩
    · exact ⟨n, rfl⟩
theorem rns_head (d : UInt8) (w : List UInt8) : ∃ n, (rns (d :: w)).head? = some ⟨(d.toNat : Int) - 48, n⟩ := by
  induction hl : w.length generalizing w with
  | zero => rw [List.length_eq_zero_iff.1 hl]; exact ⟨1, rfl⟩
  | succ k ih =>
    obtain ⟨u, c, rfl⟩ := snoc_of w (by intro h; rw [h] at hl; simp at hl)
    rw [← List.cons_append, rns_snoc]
    exact rstep_head _ _ _ (ih u (by simpa using hl))
/-! the runs of a line without a first and a last one of zeros -/
theorem rstep_pre (a x : List S40) (c : UInt8) (h : x ≠ []) : rstep (a ++ x) c = a ++ rstep x c := by
  obtain ⟨y, p, rfl⟩ := snoc_of x h
  rw [← List.append_assoc, rstep_snoc, rstep_snoc]
  split <;> simp
theorem rns_append (t : List UInt8) (ht : t ≠ []) (b : UInt8) (hb : t.getLast ht = b) (u : List UInt8) : ∀ (hu : u ≠ []), u.head hu ≠ b → rns (t ++ u) = rns t ++ rns u := by
  induction hl : u.length generalizing u with
  | zero => intro hu; exact absurd (List.length_eq_zero_iff.1 hl) hu
  | succ d ih =>
    intro hu hh
    obtain ⟨v, c, rfl⟩ := snoc_of u hu
    rw [← List.append_assoc, rns_snoc, rns_snoc]
    by_cases hv : v = []
    · subst hv
      obtain ⟨x, n, hx, _⟩ := rns_last t t.dropLast b (by rw [← hb]; exact (List.dropLast_concat_getLast ht).symm)
      have hcb : c ≠ b := by simpa using hh
      rw [List.append_nil, hx, rstep_snoc, if_neg (by
        intro e; apply hcb; apply UInt8.toNat_inj.1; simp only at e; omega)]
      rfl
    · rw [ih v (by simpa using hl) hv (by simpa [List.head_append_of_ne_nil hv] using hh), rstep_pre _ _ _ (rns_ne v hv)]
theorem rns_rep (c : UInt8) : ∀ n, rns (List.replicate (n + 1) c) = [⟨(c.toNat : Int) - 48, (n : Int) + 1⟩]
  | 0 => rfl
  | n + 1 => by
    rw [List.replicate_succ', rns_snoc, rns_rep c n]
    show rstep ([] ++ [_]) c = _
    rw [rstep_snoc, if_pos rfl]
    simp
def isZ (p : S40) : Bool := decide (p.f0 = 0)
/-- what the reference takes off -/
def cutA (x : List S40) : Nat := match x.head? with | some p => if p.f0 = 0 then 1 else 0 | none => 0
def cutB (x : List S40) : Nat := match x.getLast? with | some p => if p.f0 = 0 ∧ cutA x < x.length then x.length - 1 else x.length | none => 0
def inner (x : List S40) : List S40 := (x.drop (cutA x)).take (cutB x - cutA x)
theorem inner_of (A M B : List S40) (hA : A = [] ∨ ∃ n, A = [⟨0, n⟩]) (hB : B = [] ∨ ∃ n, B = [⟨0, n⟩]) (hM : M ≠ []) (h1 : (M.head hM).f0 ≠ 0) (h2 : (M.getLast hM).f0 ≠ 0) : inner (A ++ M ++ B) = M := by
  have hl : 0 < M.length := List.length_pos_iff.2 hM
  have ca : cutA (A ++ M ++ B) = A.length := by
    rcases hA with rfl | ⟨n, rfl⟩
    · unfold cutA
      rw [List.nil_append, List.head?_append, List.head?_eq_some_head hM]
      simp [h1]
    · simp [cutA]
  have cb : cutB (A ++ M ++ B) = A.length + M.length := by
    unfold cutB
    rw [ca]
    rcases hB with rfl | ⟨n, rfl⟩
    · rw [List.append_nil, List.getLast?_append, List.getLast?_eq_some_getLast hM]
      simp [h2]
    · rw [List.getLast?_append]
      simp
  unfold inner
  rw [ca, cb, List.append_assoc, List.drop_left]
  rw [show A.length + M.length - A.length = M.length by omega, List.take_left]
theorem inner_zero (c : UInt8) (hc : c = 48) (n : Nat) : inner (rns (List.replicate n c)) = [] := by
  subst hc
  cases n with
  | zero => rfl
  | succ n => rw [rns_rep]; simp [inner, cutA, cutB]
theorem dropWhile_rep (c : UInt8) : ∀ l : List UInt8, ∃ n, l = List.replicate n c ++ l.dropWhile (· == c)
  | [] => ⟨0, rfl⟩
  | b :: l => by
    obtain ⟨n, hn⟩ := dropWhile_rep c l
    by_cases h : b = c
    · subst h
      refine ⟨n + 1, ?_⟩
      rw [List.dropWhile_cons_of_pos (by simp), List.replicate_succ, List.cons_append, ← hn]
    · exact ⟨0, by rw [List.dropWhile_cons_of_neg (by simpa using h)]; rfl⟩
def trm (l : List UInt8) : List UInt8 := ((l.reverse.dropWhile (· == 48)).reverse).dropWhile (· == 48)
theorem head_dropWhile (l : List UInt8) (h : l.dropWhile (· == 48) ≠ []) : (l.dropWhile (· == 48)).head h ≠ 48 := by
  have := List.head_dropWhile_not (· == (48 : UInt8)) (l := l) h
  simpa using this
theorem trm_of (l : List UInt8) : ∃ a b, l = List.replicate a 48 ++ trm l ++ List.replicate b 48 ∧ ∀ h : trm l ≠ [], (trm l).head h ≠ 48 ∧ (trm l).getLast h ≠ 48 := by
  obtain ⟨b, hb⟩ := dropWhile_rep 48 l.reverse
  obtain ⟨a, ha⟩ := dropWhile_rep 48 (l.reverse.dropWhile (· == 48)).reverse
  have e : l = (l.reverse.dropWhile (· == 48)).reverse ++ List.replicate b 48 := by
    have h := congrArg List.reverse hb
    rw [List.reverse_reverse, List.reverse_append, List.reverse_replicate] at h
    exact h
  refine ⟨a, b, ?_, fun h => ⟨head_dropWhile _ h, ?_⟩⟩
  · have : (l.reverse.dropWhile (· == 48)).reverse = List.replicate a 48 ++ trm l := ha
    rw [← this]; exact e
  · have hne : (l.reverse.dropWhile (· == 48)) ≠ [] := by
      intro hn; apply h; unfold trm; rw [hn]; rfl
    have hz := head_dropWhile _ hne
    have e2 : (l.reverse.dropWhile (· == 48)).reverse = List.replicate a 48 ++ trm l := ha
    have g : (l.reverse.dropWhile (· == 48)).reverse.getLast (by simpa using hne) = (trm l).getLast h := by
      have : (l.reverse.dropWhile (· == 48)).reverse.getLast? = (trm l).getLast? := by
        rw [e2, List.getLast?_append, List.getLast?_eq_some_getLast h]; rfl
      rw [List.getLast?_eq_some_getLast h, List.getLast?_eq_some_getLast (by simpa using hne)] at this
      exact Option.some.inj this
    rw [← g, List.getLast_reverse]
    exact hz
theorem inner_rns (l : List UInt8) : inner (rns l) = rns (trm l) := by
  obtain ⟨a, b, hl, hm⟩ := trm_of l
  obtain ⟨m, hmm⟩ : ∃ m, m = trm l := ⟨_, rfl⟩
  rw [← hmm] at hl hm ⊢
  clear hmm
  subst hl
  by_cases h : m = []
  · subst h
    rw [List.append_nil, List.replicate_append_replicate]
    exact inner_zero 48 rfl _
  · obtain ⟨h1, h2⟩ := hm h
    have z : (((48 : UInt8).toNat : Nat) : Int) - 48 = 0 := rfl
    have L : ∃ A, (A = [] ∨ ∃ n, A = [(⟨0, n⟩ : S40)]) ∧ rns (List.replicate a 48 ++ m) = A ++ rns m := by
      cases a with
      | zero => exact ⟨[], Or.inl rfl, rfl⟩
      | succ a =>
        refine ⟨[⟨0, (a : Int) + 1⟩], Or.inr ⟨_, rfl⟩, ?_⟩
        rw [rns_append _ (by simp) 48 (by simp) m h h1, rns_rep]; rfl
    have R : ∃ B, (B = [] ∨ ∃ n, B = [(⟨0, n⟩ : S40)]) ∧ rns (List.replicate a 48 ++ m ++ List.replicate b 48) = rns (List.replicate a 48 ++ m) ++ B := by
      cases b with
      | zero => exact ⟨[], Or.inl rfl, by simp⟩
      | succ b =>
        refine ⟨[⟨0, (b : Int) + 1⟩], Or.inr ⟨_, rfl⟩, ?_⟩
        have hne : List.replicate a 48 ++ m ≠ [] := by simp [h]
        rw [rns_append _ hne ((List.replicate a 48 ++ m).getLast hne) rfl _ (by simp) (by
          rw [List.getLast_append_of_ne_nil _ h]; simp; exact fun e => h2 e.symm), rns_rep]; rfl
    obtain ⟨A, hA, eA⟩ := L
    obtain ⟨B, hB, eB⟩ := R
    rw [eB, eA]
    obtain ⟨v, c, rfl⟩ := snoc_of m h
    have hc : c ≠ 48 := by simpa using h2
    obtain ⟨x, n, hx, _⟩ := rns_last _ v c rfl
    refine inner_of A _ B hA hB (rns_ne _ h) ?_ ?_
    · obtain ⟨d, w, hw⟩ : ∃ d w, v ++ [c] = d :: w := by
        cases hv : v ++ [c] with
        | nil => simp at hv
        | cons d w => exact ⟨d, w, rfl⟩
      have hd : d ≠ 48 := by
        have := h1; simp only [hw, List.head_cons] at this; exact this
      have := rns_head d w
      have e : ∃ n, (rns (v ++ [c])).head? = some ⟨(d.toNat : Int) - 48, n⟩ := by rw [hw]; exact this
      obtain ⟨n, e⟩ := e
      rw [List.head?_eq_some_head (rns_ne _ h)] at e
      rw [Option.some.inj e]
      show (d.toNat : Int) - 48 ≠ 0
      intro e0; apply hd; apply UInt8.toNat_inj.1; show d.toNat = 48; omega
    · have e : (rns (v ++ [c])).getLast? = some ⟨(c.toNat : Int) - 48, n⟩ := by rw [hx]; simp
      rw [List.getLast?_eq_some_getLast (rns_ne _ h)] at e
      rw [Option.some.inj e]
      show (c.toNat : Int) - 48 ≠ 0
      intro e0; apply hc; apply UInt8.toNat_inj.1; show c.toNat = 48; omega
/-! the unit of a line -/
theorem trimS_trm (L : List UInt8) : Lib.trimS L [48] = trm L := by
  have : (fun x => [(48 : UInt8)].contains x) = (fun x => x == 48) := by
    funext x
    simp [List.contains_eq_mem]
    rw [Bool.eq_iff_iff]; simp
  unfold Lib.trimS Lib.trimLeftS Lib.trimRightS trm
  rw [this]
theorem trm_mem (L : List UInt8) : ∀ c ∈ trm L, c ∈ L := by
  obtain ⟨a, b, hl, _⟩ := trm_of L
  intro c hc
  rw [hl]; simp [hc]
theorem trm_len (L : List UInt8) : (trm L).length ≤ L.length := by
  obtain ⟨a, b, hl, _⟩ := trm_of L
  have := congrArg List.length hl
  simp only [List.length_append, List.length_replicate] at this
  omega
theorem trm_all {L : List UInt8} (h : L.all onOff = true) : (trm L).all onOff = true := by
  rw [List.all_eq_true] at h ⊢
  exact fun c hc => h c (trm_mem L c hc)
theorem trim_eq (s : ByteArray) (hs : s.size ≤ 1048576) : strings_Trim.f s ⟨#[48]⟩ = some (txt (trm s.data.toList)) := by
  unfold strings_Trim.f
  rw [if_pos (by omega), if_pos (by decide), if_pos (by decide)]
  show some (txt (Lib.trimS s.data.toList [48])) = _
  rw [trimS_trm]
theorem inner_take (x : List S40) : inner x = (x.take (cutB x)).drop (cutA x) := by
  unfold inner
  rw [List.drop_take]
theorem rd_first (p : S40) (t : List S40) : rd_T40 (p :: t) 0 = p := rfl
theorem l4Inner_eq (s : ByteArray) (hs : s.size ≤ 1048576) (hb : s.data.toList.all onOff = true) (k : Nat) (hk : s.size < k) : spec_l4Inner.f k s = some (inner (rns s.data.toList)) := by
  have hsz := size_data s
  have hlen := rns_len s.data.toList
  unfold spec_l4Inner.f
  rw [sRuns_eq s hs hb k hk]
  obtain ⟨k, rfl⟩ := pred_of_lt hk
  simp only [Option.bind_some, inner_take]
  obtain ⟨x, hx⟩ : ∃ x, x = rns s.data.toList := ⟨_, rfl⟩
  rw [← hx] at hlen ⊢
  clear hx
  have hn : ([] : List S40).length = 0 := rfl
  by_cases h0 : x = []
  · subst h0
    rw [if_neg (by simp)]
    simp only [spec_l4Inner.j0, Bool.false_eq_true, if_false, Option.bind_some]
    rw [if_neg (by simp), if_pos (by omega), if_pos (by simp), if_pos (by simp), if_pos (by simp)]
    simp
  · obtain ⟨y, q, hq⟩ := snoc_of x h0
    obtain ⟨p, t, hp⟩ : ∃ p t, x = p :: t := by cases x with
      | nil => exact absurd rfl h0
      | cons p t => exact ⟨p, t, rfl⟩
    have hpos : 0 < x.length := List.length_pos_iff.2 h0
    have hr0 : rd_T40 x 0 = p := by rw [hp]; rfl
    have hyl : x.length = y.length + 1 := by rw [hq]; simp
    have hr1 : rd_T40 x (y.length : Int) = q := by rw [hq]; exact last_rd y q
    have ca : cutA x = if p.f0 = 0 then 1 else 0 := by rw [hp]; rfl
    have cb : cutB x = if q.f0 = 0 ∧ cutA x < x.length then x.length - 1 else x.length := by
      have : x.getLast? = some q := by rw [hq]; simp
      unfold cutB; rw [this]
    have e1 : wrap64 ((x.length : Int) - 1) = (y.length : Int) := by rw [wr (by omega) (by omega)]; omega
    rw [if_pos (by omega), if_pos (by omega), hr0]
    by_cases hp0 : p.f0 = 0
    · rw [if_pos hp0] at ca
      have hb : (p.f0 == 0) = true := by simpa using hp0
      simp only [spec_l4Inner.j0, hb, if_true, Option.bind_some, e1]
      by_cases hl1 : (x.length : Int) > 1
      · rw [if_pos hl1, if_pos (by omega), if_pos (by omega), hr1]
        by_cases hq0 : q.f0 = 0
        · rw [if_pos ⟨hq0, by omega⟩] at cb
          rw [if_pos hq0, if_pos (by omega), if_pos (by omega), ca, cb, Int.toNat_natCast, show x.length - 1 = y.length by omega, if_pos (by rw [hn, List.length_drop, List.length_take]; omega)]
          rfl
        · rw [if_neg (fun h => hq0 h.1)] at cb
          rw [if_neg hq0, if_pos (by omega), if_pos (by omega), ca, cb, Int.toNat_natCast, if_pos (by rw [hn, List.length_drop, List.length_take]; omega)]
          rfl
      · rw [if_neg (by omega)] at cb
        rw [if_neg hl1, if_pos (by omega), if_pos (by omega), ca, cb, Int.toNat_natCast, if_pos (by rw [hn, List.length_drop, List.length_take]; omega)]
        rfl
    · rw [if_neg hp0] at ca
      have hb : (p.f0 == 0) = false := by simpa using hp0
      have z0 : (0 : Int).toNat = 0 := rfl
      simp only [spec_l4Inner.j0, hb, Bool.false_eq_true, if_false, Option.bind_some, e1]
      rw [if_pos (by omega), if_pos (by omega), if_pos (by omega), hr1]
      by_cases hq0 : q.f0 = 0
      · rw [if_pos ⟨hq0, by omega⟩] at cb
        rw [if_pos hq0, if_pos (by omega), if_pos (by omega), if_pos (by omega), ca, cb, Int.toNat_natCast, z0, show x.length - 1 = y.length by omega, if_pos (by rw [hn, List.length_drop, List.length_take]; omega)]
        rfl
      · rw [if_neg (fun h => hq0 h.1)] at cb
        rw [if_neg hq0, if_pos (by omega), if_pos (by omega), if_pos (by omega), ca, cb, Int.toNat_natCast, z0, if_pos (by rw [hn, List.length_drop, List.length_take]; omega)]
        rfl
def gcds : List S40 → Nat → Nat
  | [], u => u
  | p :: t, u => gcds t (Nat.gcd u p.f1.toNat)
theorem gcd_turn (a b : Nat) : Nat.gcd a b = Nat.gcd b (a % b) := by
  rw [Nat.gcd_comm a b, Nat.gcd_rec b a, Nat.gcd_comm]
theorem tmod_nat (a b : Nat) : Int.tmod (a : Int) (b : Int) = ((a % b : Nat) : Int) := (Int.ofNat_tmod a b).symm
theorem divisor_eq (n : Nat) : ∀ (b : Nat), b ≤ n → ∀ (k a : Nat), b < k → impl_divisor.l0 k (a : Int) (b : Int) = some ((Nat.gcd a b : Nat) : Int) := by
  induction n with
  | zero =>
    intro b hb k a hk
    obtain ⟨k, rfl⟩ := pred_of_lt hk
    obtain rfl : b = 0 := by omega
    simp only [impl_divisor.l0]
    rw [if_pos (by omega), Nat.gcd_zero_right]
  | succ n ih =>
    intro b hb k a hk
    obtain ⟨k, rfl⟩ := pred_of_lt hk
    simp only [impl_divisor.l0]
    by_cases h0 : b = 0
    · subst h0; rw [if_pos (by omega), Nat.gcd_zero_right]
    · have hm := Nat.mod_lt a (Nat.pos_of_ne_zero h0)
      rw [if_neg (by omega), tmod_nat, ih (a % b) (by omega) k b (by omega), ← gcd_turn]
theorem sUnit_l1 (X : List S40) (i : Nat) (hi : i ≤ 1048576) (n : Nat) : ∀ (b : Nat), b ≤ n → ∀ (k a : Nat), b < k → ∃ k', k ≤ k' + b + 1 ∧ spec_l4Unit.l1 k X (i : Int) (a : Int) (b : Int) = spec_l4Unit.l0 k' ((Nat.gcd a b : Nat) : Int) X ((i + 1 : Nat) : Int) := by
  have e1 : wrap64 ((i : Int) + 1) = ((i + 1 : Nat) : Int) := by rw [wr (by omega) (by omega)]; omega
  induction n with
  | zero =>
    intro b hb k a hk
    obtain ⟨k, rfl⟩ := pred_of_lt hk
    obtain rfl : b = 0 := by omega
    refine ⟨k, by omega, ?_⟩
    simp only [spec_l4Unit.l1, e1]
    rw [if_neg (by omega), Nat.gcd_zero_right]
  | succ n ih =>
    intro b hb k a hk
    obtain ⟨k, rfl⟩ := pred_of_lt hk
    by_cases h0 : b = 0
    · subst h0
      refine ⟨k, by omega, ?_⟩
      simp only [spec_l4Unit.l1, e1]
      rw [if_neg (by omega), Nat.gcd_zero_right]
    · have hm := Nat.mod_lt a (Nat.pos_of_ne_zero h0)
      obtain ⟨k', h1, h2⟩ := ih (a % b) (by omega) k b (by omega)
      refine ⟨k', by omega, ?_⟩
      simp only [spec_l4Unit.l1]
      rw [if_pos (by omega), if_neg (by omega), tmod_nat, h2, ← gcd_turn]
theorem rdP_get (X : List S40) (i : Nat) (h : i < X.length) : rd_T40 X (i : Int) = X[i] := by simp [rd_T40, h]
theorem sUnit_l0 (X : List S40) (hX : X.length ≤ 1048576) (hf : ∀ p ∈ X, 0 ≤ p.f1 ∧ p.f1 ≤ 998) (d : Nat) : ∀ (k i u : Nat), i ≤ X.length → X.length - i = d → 1000 * d < k →
    spec_l4Unit.l0 k (u : Int) X (i : Int) = some ((gcds (X.drop i) u : Nat) : Int) := by
  induction d with
  | zero =>
    intro k i u hi hd hk
    obtain ⟨k, rfl⟩ := pred_of_lt hk
    simp only [spec_l4Unit.l0]
    rw [if_neg (by omega), List.drop_eq_nil_of_le (by omega)]; rfl
  | succ d ih =>
    intro k i u hi hd hk
    obtain ⟨k, rfl⟩ := pred_of_lt hk
    have hlt : i < X.length := by omega
    obtain ⟨h0, h1⟩ := hf _ (List.getElem_mem hlt)
    obtain ⟨b, hb⟩ : ∃ b : Nat, X[i].f1 = (b : Int) := ⟨X[i].f1.toNat, by omega⟩
    obtain ⟨k', hk', e⟩ := sUnit_l1 X i (by omega) b b (Nat.le_refl _) k u (by omega)
    simp only [spec_l4Unit.l0]
    rw [if_pos (by omega), if_pos (by omega), rdP_get X i hlt, hb, e, ih k' (i + 1) (Nat.gcd u b) (by omega) (by omega) (by omega), List.drop_eq_getElem_cons hlt]
    simp only [gcds, hb, Int.toNat_natCast]
theorem iUnit_l0 (X : List S40) (hX : X.length ≤ 1048576) (hf : ∀ p ∈ X, 0 ≤ p.f1 ∧ p.f1 ≤ 998) (d : Nat) : ∀ (k i u : Nat), i ≤ X.length → X.length - i = d → 1000 + d < k →
    impl_innerRuns.l0 k X (u : Int) X (X.length : Int) (i : Int) = some (X, ((gcds (X.drop i) u : Nat) : Int)) := by
  induction d with
  | zero =>
    intro k i u hi hd hk
    obtain ⟨k, rfl⟩ := pred_of_lt hk
    simp only [impl_innerRuns.l0]
    rw [if_neg (by omega), List.drop_eq_nil_of_le (by omega)]; rfl
  | succ d ih =>
    intro k i u hi hd hk
    obtain ⟨k, rfl⟩ := pred_of_lt hk
    have hlt : i < X.length := by omega
    have e1 : wrap64 ((i : Int) + 1) = ((i + 1 : Nat) : Int) := by rw [wr (by omega) (by omega)]; omega
    obtain ⟨h0, h1⟩ := hf _ (List.getElem_mem hlt)
    obtain ⟨b, hb⟩ : ∃ b : Nat, X[i].f1 = (b : Int) := ⟨X[i].f1.toNat, by omega⟩
    simp only [impl_innerRuns.l0, impl_divisor.f, e1]
    rw [if_pos (by omega), if_pos (by omega), if_pos (by omega), rdP_get X i hlt, hb, divisor_eq b b (Nat.le_refl _) k u (by omega)]
    simp only [Option.bind_some]
    rw [ih k (i + 1) (Nat.gcd u b) (by omega) (by omega) (by omega), List.drop_eq_getElem_cons hlt]
    simp only [gcds, hb, Int.toNat_natCast]
def unitL (L : List UInt8) : Nat := gcds (rns (trm L)) 0
theorem unit_both (s : ByteArray) (h : isLn s = true) (k : Nat) (hk : 1000000 ≤ k) : spec_l4Unit.f k s = some ((unitL s.data.toList : Nat) : Int) ∧ impl_innerRuns.f k s = some (rns (trm s.data.toList), ((unitL s.data.toList : Nat) : Int)) := by
  obtain ⟨hz, hb⟩ := isLn_all h
  have hsz := size_data s
  have ht := trm_len s.data.toList
  have hf : ∀ p ∈ rns (trm s.data.toList), 0 ≤ p.f1 ∧ p.f1 ≤ 998 := fun p hp => by
    have := rns_all _ p hp
    omega
  have hlen := rns_len (trm s.data.toList)
  have z : (txt (trm s.data.toList)).size = (trm s.data.toList).length := txt_size _
  constructor
  · unfold spec_l4Unit.f
    rw [l4Inner_eq s (by omega) hb k (by omega), inner_rns]
    exact sUnit_l0 _ (by omega) hf _ k 0 0 (by omega) rfl (by omega)
  · unfold impl_innerRuns.f
    rw [trim_eq s (by omega)]
    simp only [Option.bind_some]
    rw [iRuns_eq (txt (trm s.data.toList)) (by omega) (trm_all hb) k (by omega)]
    exact iUnit_l0 _ (by omega) hf _ k 0 0 (by omega) rfl (by omega)
/-! the line of runs, as both sides write it -/
theorem rbyte_num {f : Int} (h : f = 0 ∨ f = 1) : ((rbyte f).toNat : Int) = f + 48 := by
  rcases h with rfl | rfl <;> decide
theorem one_text (c : UInt8) : strOfNums [((c.toNat : Nat) : Int)] = (⟨#[c]⟩ : ByteArray) := strOf_nums [c]
def okRun (p : S40) : Prop := (p.f0 = 0 ∨ p.f0 = 1) ∧ 0 ≤ p.f1 ∧ p.f1 ≤ 1048576
theorem expd_app (x y : List S40) : expd (x ++ y) = expd x ++ expd y := by simp [expd]
theorem expd_take (X : List S40) (i : Nat) (h : i < X.length) : expd (X.take (i + 1)) = expd (X.take i) ++ List.replicate X[i].f1.toNat (rbyte X[i].f0) := by
  rw [List.take_succ_eq_append_getElem h, expd_snoc]
theorem expd_take_len (X : List S40) (i : Nat) : (expd (X.take i)).length ≤ (expd X).length := by
  have : expd X = expd (X.take i) ++ expd (X.drop i) := by rw [← expd_app, List.take_append_drop]
  rw [this, List.length_append]; omega
theorem ofRuns_l0 (X : List S40) (hX : X.length ≤ 1048576) (hok : ∀ p ∈ X, okRun p) (hz : (expd X).length ≤ 1048576) (d : Nat) : ∀ (k i : Nat), i ≤ X.length → X.length - i = d → d < k →
    impl_ofRuns.l0 k (txt (expd (X.take i))) X (X.length : Int) (i : Int) = some (txt (expd X)) := by
  induction d with
  | zero =>
    intro k i hi hd hk
    obtain ⟨k, rfl⟩ := pred_of_lt hk
    simp only [impl_ofRuns.l0]
    rw [if_neg (by omega), List.take_of_length_le (by omega)]
  | succ d ih =>
    intro k i hi hd hk
    obtain ⟨k, rfl⟩ := pred_of_lt hk
    have hlt : i < X.length := by omega
    obtain ⟨h1, h2, h3⟩ := hok _ (List.getElem_mem hlt)
    have n := ih k (i + 1) (by omega) (by omega) (by omega)
    have e1 : wrap64 ((i : Int) + 1) = ((i + 1 : Nat) : Int) := by rw [wr (by omega) (by omega)]; omega
    have hb := rbyte_num h1
    have e2 : (wrap64 (48 + X[i].f0)) % 256 = ((rbyte X[i].f0).toNat : Int) := by
      clear e1; rw [wr (by omega) (by omega)]; omega
    have l1 := expd_take_len X i
    have l2 := expd_take_len X (i + 1)
    rw [expd_take X i hlt] at n l2
    rw [← txt_app] at n
    rw [List.length_append] at l2
    simp only [impl_ofRuns.l0, rdP_get X i hlt, e1, e2, one_text]
    rw [if_pos (by omega), if_pos (by omega), if_pos (by omega), repeat_eq _ _ h2 h3]
    simp only [Option.bind_some]
    rw [if_pos (by rw [txt_size, txt_size]; omega)]
    exact n
theorem ofRuns_eq (X : List S40) (hX : X.length ≤ 1048576) (hok : ∀ p ∈ X, okRun p) (hz : (expd X).length ≤ 1048576) (k : Nat) (hk : X.length < k) : impl_ofRuns.f k X = some (txt (expd X)) :=
  ofRuns_l0 X hX hok hz X.length k 0 (by omega) (by omega) hk
theorem rns_ok {L : List UInt8} (h : L.all onOff = true) (hl : L.length ≤ 1048576) : ∀ p ∈ rns L, okRun p := by
  intro p hp
  obtain ⟨⟨c, hc, h0⟩, h1, h2⟩ := rns_all L p hp
  refine ⟨?_, by omega, by omega⟩
  rcases onOff_of h hc with rfl | rfl
  · left; rw [h0]; decide
  · right; rw [h0]; decide
/-! a list that is turned in place, element after element -/
def turnd (g : S40 → S40) (X : List S40) (i : Nat) : List S40 := (X.take i).map g ++ X.drop i
theorem turnd_len (g : S40 → S40) (X : List S40) (i : Nat) (h : i ≤ X.length) : (turnd g X i).length = X.length := by
  unfold turnd; rw [List.length_append, List.length_map, List.length_take, List.length_drop]; omega
theorem turnd_rd (g : S40 → S40) (X : List S40) (i : Nat) (h : i < X.length) : rd_T40 (turnd g X i) (i : Int) = X[i] := by
  have hl : ((X.take i).map g).length = i := by rw [List.length_map, List.length_take]; omega
  unfold turnd rd_T40
  rw [Int.toNat_natCast, List.getD_eq_getElem?_getD, List.getElem?_append_right (by omega), hl, Nat.sub_self, List.drop_eq_getElem_cons h]
  rfl
theorem turnd_set (g : S40 → S40) (X : List S40) (i : Nat) (h : i < X.length) : (turnd g X i).set i (g X[i]) = turnd g X (i + 1) := by
  have hl : ((X.take i).map g).length = i := by rw [List.length_map, List.length_take]; omega
  unfold turnd
  rw [List.set_append_right _ _ (by omega), hl, Nat.sub_self, List.drop_eq_getElem_cons h, List.set_cons_zero, List.take_succ_eq_append_getElem h, List.map_append, List.append_assoc]
  rfl
theorem turnd_zero (g : S40 → S40) (X : List S40) : turnd g X 0 = X := by simp [turnd]
theorem turnd_all (g : S40 → S40) (X : List S40) (i : Nat) (h : X.length ≤ i) : turnd g X i = X.map g := by
  unfold turnd; rw [List.take_of_length_le h, List.drop_eq_nil_of_le h, List.append_nil]
/-! the plain line, as both sides write it -/
def gu (u : Int) (p : S40) : S40 := ⟨p.f0, wrap64 (Int.tdiv p.f1 u)⟩
theorem gcds_pos : ∀ (X : List S40) (u : Nat), (0 < u ∨ X ≠ []) → (∀ p ∈ X, 1 ≤ p.f1) → 0 < gcds X u
  | [], u, h, _ => by
    rcases h with h | h
    · exact h
    · exact absurd rfl h
  | p :: X, u, _, h => by
    have hp := h p (by simp)
    exact gcds_pos X _ (Or.inl (Nat.gcd_pos_of_pos_right _ (by omega))) (fun p hp => h p (by simp [hp]))
theorem gu_ok (u : Nat) (p : S40) (h : okRun p) : okRun (gu u p) ∧ (gu u p).f1 ≤ p.f1 := by
  obtain ⟨h1, h2, h3⟩ := h
  obtain ⟨n, hn⟩ : ∃ n : Nat, p.f1 = (n : Int) := ⟨p.f1.toNat, by omega⟩
  have e : Int.tdiv (n : Int) (u : Int) = ((n / u : Nat) : Int) := (Int.ofNat_tdiv n u).symm
  have hle := Nat.div_le_self n u
  obtain ⟨q, hq⟩ : ∃ q : Nat, n / u = q := ⟨_, rfl⟩
  have e2 : (gu u p).f1 = ((n / u : Nat) : Int) := by
    show wrap64 (Int.tdiv p.f1 (u : Int)) = _
    rw [hn, e, hq, wr (by omega) (by omega)]
  rw [hq] at e2 hle
  exact ⟨⟨h1, by rw [e2]; omega, by rw [e2]; omega⟩, by rw [e2]; omega⟩
theorem expd_gu (u : Nat) : ∀ (X : List S40), (∀ p ∈ X, okRun p) → (expd (X.map (gu u))).length ≤ (expd X).length
  | [], _ => Nat.le_refl _
  | p :: X, h => by
    have ih := expd_gu u X (fun p hp => h p (by simp [hp]))
    have g := gu_ok u p (h p (by simp))
    have e1 : expd ((p :: X).map (gu u)) = List.replicate (gu u p).f1.toNat (rbyte (gu u p).f0) ++ expd (X.map (gu u)) := rfl
    have e2 : expd (p :: X) = List.replicate p.f1.toNat (rbyte p.f0) ++ expd X := rfl
    rw [e1, e2, List.length_append, List.length_append, List.length_replicate, List.length_replicate]
    have := g.2
    omega
theorem iPlain_l0 (X : List S40) (hX : X.length ≤ 1048576) (u : Int) (hu : X ≠ [] → u ≠ 0) (k' : Nat) (r : ByteArray) (hr : ∀ k, k' ≤ k → impl_ofRuns.f k (X.map (gu u)) = some r) (d : Nat) : ∀ (k i : Nat), i ≤ X.length → X.length - i = d → d + k' < k →
    impl_plainLine.l0 k (turnd (gu u) X i) u (X.length : Int) (i : Int) = some r := by
  induction d with
  | zero =>
    intro k i hi hd hk
    obtain ⟨k, rfl⟩ := pred_of_lt hk
    simp only [impl_plainLine.l0]
    rw [if_neg (by omega), turnd_all _ _ _ (by omega), hr k (by omega)]; rfl
  | succ d ih =>
    intro k i hi hd hk
    obtain ⟨k, rfl⟩ := pred_of_lt hk
    have hlt : i < X.length := by omega
    have hu0 := hu (by intro e; rw [e] at hlt; simp at hlt)
    have n := ih k (i + 1) (by omega) (by omega) (by omega)
    have e1 : wrap64 ((i : Int) + 1) = ((i + 1 : Nat) : Int) := by rw [wr (by omega) (by omega)]; omega
    simp only [impl_plainLine.l0, turnd_rd _ X i hlt, e1, Int.toNat_natCast, turnd_len _ X i hi]
    rw [if_pos (by omega), if_pos (by omega), if_pos (by omega), if_neg hu0]
    rw [← turnd_set _ X i hlt] at n
    exact n
theorem sign_text {f : Int} (h : f = 0 ∨ f = 1) : (⟨#[48, 49]⟩ : ByteArray).extract (f : Int).toNat ((wrap64 (f + 1)) : Int).toNat = (⟨#[rbyte f]⟩ : ByteArray) := by
  have e0 : wrap64 (0 + 1) = 1 := by rw [wr (by omega) (by omega)]; rfl
  have e1 : wrap64 (1 + 1) = 2 := by rw [wr (by omega) (by omega)]; rfl
  rcases h with rfl | rfl
  · rw [e0]; apply ByteArray.ext; apply Array.toList_inj.1; rw [ByteArray.data_extract, Array.toList_extract, List.extract_eq_take_drop]; rfl
  · rw [e1]; apply ByteArray.ext; apply Array.toList_inj.1; rw [ByteArray.data_extract, Array.toList_extract, List.extract_eq_take_drop]; rfl
theorem sPlain_l0 (X : List S40) (hX : X.length ≤ 1048576) (hok : ∀ p ∈ X, okRun p) (hz : (expd X).length ≤ 1048576) (u : Nat) (hu : X ≠ [] → u ≠ 0) (d : Nat) : ∀ (k i : Nat), i ≤ X.length → X.length - i = d → d + 1048600 < k →
    spec_l4Plain.l0 k (txt (expd ((X.map (gu u)).take i))) X (u : Int) (i : Int) = some (txt (expd (X.map (gu u)))) := by
  induction d with
  | zero =>
    intro k i hi hd hk
    obtain ⟨k, rfl⟩ := pred_of_lt hk
    simp only [spec_l4Plain.l0]
    rw [if_neg (by omega), List.take_of_length_le (by rw [List.length_map]; omega)]
  | succ d ih =>
    intro k i hi hd hk
    obtain ⟨k, rfl⟩ := pred_of_lt hk
    have hlt : i < X.length := by omega
    have hlt2 : i < (X.map (gu u)).length := by rw [List.length_map]; omega
    have hu0 := hu (by intro e; rw [e] at hlt; simp at hlt)
    have hok1 := hok _ (List.getElem_mem hlt)
    obtain ⟨⟨o1, o2, o3⟩, o4⟩ := gu_ok u _ hok1
    have n := ih k (i + 1) (by omega) (by omega) (by omega)
    have e1 : wrap64 ((i : Int) + 1) = ((i + 1 : Nat) : Int) := by rw [wr (by omega) (by omega)]; omega
    have l1 := expd_take_len (X.map (gu u)) i
    have l2 := expd_take_len (X.map (gu u)) (i + 1)
    have l3 := expd_gu u X hok
    rw [expd_take _ i hlt2] at n l2
    rw [← txt_app] at n
    rw [List.length_append] at l2
    have eg : (X.map (gu u))[i] = gu u X[i] := by simp
    rw [eg] at n l2
    have ef : (gu u X[i]).f0 = X[i].f0 := rfl
    have h01 := hok1.1
    simp only [spec_l4Plain.l0, rdP_get X i hlt, e1]
    have e3 : wrap64 (X[i].f0 + 1) = X[i].f0 + 1 := by clear e1; rw [wr (by omega) (by omega)]
    rw [sign_text h01, e3]
    have em := many_eq (rbyte X[i].f0) (gu u X[i]).f1 o2 o3 k (by omega)
    have em' : spec_l4Many.f k ⟨#[rbyte X[i].f0]⟩ (wrap64 (Int.tdiv X[i].f1 (u : Int))) = _ := em
    rw [if_pos (by omega), if_pos (by omega), if_pos (by omega), if_pos (by omega), if_pos (by omega), if_neg (by omega), em']
    simp only [Option.bind_some]
    rw [if_pos (by rw [txt_size, txt_size, List.length_replicate]; rw [List.length_replicate] at l2; omega)]
    exact n
theorem plain_both (s : ByteArray) (h : isLn s = true) (k : Nat) (hk : 2000000 ≤ k) : ∃ L : List UInt8, L.length ≤ 200 ∧ L.all onOff = true ∧ spec_l4Plain.f k s = some (txt L) ∧ impl_plainLine.f k s = some (txt L) := by
  obtain ⟨hz, hb⟩ := isLn_all h
  have hsz := size_data s
  have ht := trm_len s.data.toList
  have u := unit_both s h k (by omega)
  have hlen := rns_len (trm s.data.toList)
  have hok := rns_ok (trm_all hb) (by omega)
  have hu : rns (trm s.data.toList) ≠ [] → unitL s.data.toList ≠ 0 := fun hne => by
    have := gcds_pos (rns (trm s.data.toList)) 0 (Or.inr hne) (fun p hp => (rns_all _ p hp).2.1)
    unfold unitL; omega
  have hle := expd_gu (unitL s.data.toList) _ hok
  have hex : (expd (rns (trm s.data.toList))).length ≤ 200 := by rw [expd_rns]; omega
  refine ⟨expd ((rns (trm s.data.toList)).map (gu (unitL s.data.toList))), by omega, ?_, ?_, ?_⟩
  · rw [List.all_eq_true]
    intro c hc
    obtain ⟨p, hp, hcp⟩ := List.mem_flatMap.1 hc
    obtain ⟨q, hq, rfl⟩ := List.mem_map.1 hp
    obtain ⟨⟨o1, _, _⟩, _⟩ := gu_ok (unitL s.data.toList) q (hok q hq)
    rw [List.mem_replicate] at hcp
    rw [hcp.2]
    rcases o1 with e | e <;> rw [e] <;> decide
  · unfold spec_l4Plain.f
    rw [l4Inner_eq s (by omega) hb k (by omega), inner_rns, u.1]
    simp only [Option.bind_some]
    exact sPlain_l0 _ (by omega) hok (by omega) (unitL s.data.toList) hu _ k 0 (by omega) rfl (by omega)
  · unfold impl_plainLine.f
    rw [u.2]
    simp only [Option.bind_some]
    have I := iPlain_l0 (rns (trm s.data.toList)) (by omega) (unitL s.data.toList : Int) (fun hne => by have := hu hne; omega) 300 (txt (expd ((rns (trm s.data.toList)).map (gu (unitL s.data.toList))))) (fun k hk => by
      refine ofRuns_eq _ (by rw [List.length_map]; omega) ?_ (by omega) k (by rw [List.length_map]; omega)
      intro p hp
      obtain ⟨q, hq, rfl⟩ := List.mem_map.1 hp
      exact (gu_ok _ q (hok q hq)).1) (rns (trm s.data.toList)).length k 0 (by omega) (by omega) (by omega)
    rw [turnd_zero] at I
    exact I
theorem FnExactPlainLine : laws_FnExactPlainLine.Pure := by
  intro s hs
  by_cases h : (s.size : Int) > 1048576
  · refine ⟨0, ?_⟩
    unfold laws_FnExactPlainLine.f
    rw [if_pos h]
  · obtain ⟨M, hM⟩ : ∃ M : Nat, 4194400 ≤ M := ⟨4194400, Nat.le_refl _⟩
    refine ⟨M, ?_⟩
    unfold laws_FnExactPlainLine.f spec_PlainLine.f impl_PlainLine.f
    rw [if_neg h, l4Line_eq s (by omega) _ (by omega), implLine_eq]
    simp only [Option.bind_some]
    by_cases hl : isLn s = true
    · obtain ⟨L, _, _, u1, u2⟩ := plain_both s hl M (by omega)
      rw [if_pos hl, if_pos hl, u1, u2]
      simp
    · rw [if_neg hl, if_neg hl]
      simp

end Go.Proofs.YtlfheofodhfbaaaDoor.Pure
