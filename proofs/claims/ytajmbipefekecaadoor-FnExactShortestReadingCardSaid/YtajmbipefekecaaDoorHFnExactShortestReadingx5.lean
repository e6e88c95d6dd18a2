/- What the machine does at each Go function that the law reaches is what the Lean function of its name says. -/
import Derived.Test.YtajmbipefekecaaDoorHFnExactShortestReadingx0
import Derived.Test.YtajmbipefekecaaDoorHFnExactShortestReadingx4
namespace Go.Proofs.YtajmbipefekecaaDoor.HFnExactShortestReading
open Go.RowKit Go.Proofs.YtajmbipefekecaaDoorW.PrintWords Go.Proofs.YtajmbipefekecaaDoorW.PrintLast Go.Proofs.YtajmbipefekecaaDoorW.PrintMore
attribute [local go_sem] max2_int min2_int max_two min_two max_three min_three max_four min_four   -- for this text's walks alone
set_option linter.unusedVariables false
set_option linter.unusedSimpArgs false

/-! ### bits_Mul32: function 61 -/
def bits_Mul32.f (a0 : Int) (a1 : Int) : Option (Int × Int) := some (((IntKind.u64.wrap ((IntKind.u64.wrap (a0)) * (IntKind.u64.wrap (a1)))) / 4294967296) % 4294967296, (IntKind.u64.wrap ((IntKind.u64.wrap (a0)) * (IntKind.u64.wrap (a1)))) % 4294967296)
set_option maxHeartbeats 8000000 in
set_option maxRecDepth 100000 in
theorem bits_Mul32.calls (a0 : Int) (a1 : Int) (r1 : Int) (r2 : Int) (w : World) (h : bits_Mul32.f a0 a1 = some (r1, r2)) :
    Calls Tryd.prog 61 #[.int .u32 a0, .int .u32 a1] w fun e w' => e = .returned (.tuple #[.int .u32 r1, .int .u32 r2]) ∧ Drawn0 w w' := by
  have H : (some (((IntKind.u64.wrap ((IntKind.u64.wrap (a0)) * (IntKind.u64.wrap (a1)))) / 4294967296) % 4294967296, (IntKind.u64.wrap ((IntKind.u64.wrap (a0)) * (IntKind.u64.wrap (a1)))) % 4294967296)) = some (r1, r2) := h
  clear h
  simp only [Option.some.injEq, Prod.mk.injEq] at H
  obtain ⟨rfl, rfl⟩ := H
  go_enter Tryd.func61, Tryd.ntmps61
  go_wp2
  go_ret2
  exact ⟨by first | rfl | (simp; done) | (simp [*]; done), by repeat (first | exact Drawn0.refl _ | apply Drawn0.step)⟩

/-! ### bits_Mul64: function 62 -/
def bits_Mul64.f (a0 : Int) (a1 : Int) : Option (Int × Int) := some (IntKind.u64.wrap ((IntKind.u64.wrap ((IntKind.u64.wrap ((a0 / 4294967296) * (a1 / 4294967296))) + ((IntKind.u64.wrap ((IntKind.u64.wrap ((a0 / 4294967296) * (Go.bits .and .u64 a1 4294967295))) + ((IntKind.u64.wrap ((Go.bits .and .u64 a0 4294967295) * (Go.bits .and .u64 a1 4294967295))) / 4294967296))) / 4294967296))) + ((IntKind.u64.wrap ((Go.bits .and .u64 (IntKind.u64.wrap ((IntKind.u64.wrap ((a0 / 4294967296) * (Go.bits .and .u64 a1 4294967295))) + ((IntKind.u64.wrap ((Go.bits .and .u64 a0 4294967295) * (Go.bits .and .u64 a1 4294967295))) / 4294967296))) 4294967295) + (IntKind.u64.wrap ((Go.bits .and .u64 a0 4294967295) * (a1 / 4294967296))))) / 4294967296)), IntKind.u64.wrap (a0 * a1))
set_option maxHeartbeats 8000000 in
set_option maxRecDepth 100000 in
theorem bits_Mul64.calls (a0 : Int) (a1 : Int) (r1 : Int) (r2 : Int) (w : World) (h : bits_Mul64.f a0 a1 = some (r1, r2)) :
    Calls Tryd.prog 62 #[.int .u64 a0, .int .u64 a1] w fun e w' => e = .returned (.tuple #[.int .u64 r1, .int .u64 r2]) ∧ Drawn0 w w' := by
  have H : (some (IntKind.u64.wrap ((IntKind.u64.wrap ((IntKind.u64.wrap ((a0 / 4294967296) * (a1 / 4294967296))) + ((IntKind.u64.wrap ((IntKind.u64.wrap ((a0 / 4294967296) * (Go.bits .and .u64 a1 4294967295))) + ((IntKind.u64.wrap ((Go.bits .and .u64 a0 4294967295) * (Go.bits .and .u64 a1 4294967295))) / 4294967296))) / 4294967296))) + ((IntKind.u64.wrap ((Go.bits .and .u64 (IntKind.u64.wrap ((IntKind.u64.wrap ((a0 / 4294967296) * (Go.bits .and .u64 a1 4294967295))) + ((IntKind.u64.wrap ((Go.bits .and .u64 a0 4294967295) * (Go.bits .and .u64 a1 4294967295))) / 4294967296))) 4294967295) + (IntKind.u64.wrap ((Go.bits .and .u64 a0 4294967295) * (a1 / 4294967296))))) / 4294967296)), IntKind.u64.wrap (a0 * a1))) = some (r1, r2) := h
  clear h
  simp only [Option.some.injEq, Prod.mk.injEq] at H
  obtain ⟨rfl, rfl⟩ := H
  go_enter Tryd.func62, Tryd.ntmps62
  go_wp2
  go_ret2
  exact ⟨by first | rfl | (simp; done) | (simp [*]; done), by repeat (first | exact Drawn0.refl _ | apply Drawn0.step)⟩

/-! ### bits_Mul: function 55 -/
def bits_Mul.f (a0 : Int) (a1 : Int) : Option (Int × Int) := (bits_Mul64.f a0 a1).bind fun bt183 => (some (bt183.1, bt183.2))
set_option maxHeartbeats 8000000 in
set_option maxRecDepth 100000 in
theorem bits_Mul.calls (a0 : Int) (a1 : Int) (r1 : Int) (r2 : Int) (w : World) (h : bits_Mul.f a0 a1 = some (r1, r2)) :
    Calls Tryd.prog 55 #[.int .u64 a0, .int .u64 a1] w fun e w' => e = .returned (.tuple #[.int .u64 r1, .int .u64 r2]) ∧ Drawn0 w w' := by
  have H : ((bits_Mul64.f a0 a1).bind fun bt183 => (some (bt183.1, bt183.2))) = some (r1, r2) := h
  clear h
  replace H := Option.bind_eq_some_iff.mp H
  obtain ⟨⟨t183, t184⟩, A30, H⟩ := H
  replace H : (some (t183, t184)) = some (r1, r2) := H
  have A3 := Aside0.mk A30
  clear A30
  simp only [Option.some.injEq, Prod.mk.injEq] at H
  obtain ⟨rfl, rfl⟩ := H
  go_enter Tryd.func55, Tryd.ntmps55
  go_wp2_with (first | ((with_reducible refine gate_callee (f := 62) rfl ?_); refine goesL_ (some 25) rfl rfl Tryd.func62 (by kernel_rfl) rfl #[.int .u64 a0, .int .u64 a1] rfl (by (try simp only [List.map_toArray, List.map_cons, List.map_nil]); first | done | rfl | (simp only [List.length_drop, List.length_take]; rfl)) ?_; (with_reducible refine (bits_Mul64.calls a0 a1 t183 t184 _ A3.out).mono ?_); rintro e w' ⟨rfl, ⟨nd, rfl⟩⟩; refine ⟨_, rfl, ?_⟩))
  go_ret2
  exact ⟨by first | rfl | (simp; done) | (simp [*]; done), by repeat (first | exact Drawn0.refl _ | apply Drawn0.step)⟩

/-! ### slices_Repeat_int_int: function 44 (by hand) -/
theorem slices_Repeat_int_int.mul1 (m : Nat) (hm : m ≤ 100000) : bits_Mul.f 1 (m : Int) = some (0, (m : Int)) := by
  have w0 : ∀ n : Int, 0 ≤ n → n < 2 ^ 32 → IntKind.u64.wrap n = n := fun n h0 h1 => by
    have e : IntKind.u64.wrap n = n % 18446744073709551616 := by simp [IntKind.wrap, IntKind.bits, IntKind.signed]
    rw [e]; omega
  have m1 : bits .and .u64 1 4294967295 = 1 := bits_mask .u64 32 (by decide) w0 32 (by decide) 1 (by omega) (by omega)
  have mm : bits .and .u64 (m : Int) 4294967295 = (m : Int) := by
    have := bits_mask .u64 32 (by decide) w0 32 (by decide) (m : Int) (by omega) (by omega)
    rw [show (4294967295 : Int) = 2 ^ 32 - 1 by decide, this]; omega
  have d1 : (1 : Int) / 4294967296 = 0 := by decide
  have dm : (m : Int) / 4294967296 = 0 := by omega
  have z : IntKind.u64.wrap 0 = 0 := w0 0 (by omega) (by omega)
  have zm : IntKind.u64.wrap (m : Int) = (m : Int) := w0 _ (by omega) (by omega)
  have m0 : bits .and .u64 0 4294967295 = 0 := by
    have := bits_mask .u64 32 (by decide) w0 32 (by decide) 0 (by omega) (by omega)
    rw [show (4294967295 : Int) = 2 ^ 32 - 1 by decide, this]; rfl
  unfold bits_Mul.f bits_Mul64.f
  simp only [m1, mm, d1, dm, Int.zero_mul, Int.mul_zero, Int.one_mul, z, zm, Int.add_zero, Int.zero_add, m0, Option.bind_some]
  have z0 : (0 : Int) / 4294967296 = 0 := by decide
  simp only [z0, z, m0, Int.add_zero]
/-- so many of the one, and then noughts -/
def slices_Repeat_int_int.cells (n m : Nat) : List Value := List.replicate n (.int .i64 (-1)) ++ List.replicate (m - n) (.int .i64 0)
theorem slices_Repeat_int_int.splice_ (n m k : Nat) (h : n + k ≤ m) : splice (slices_Repeat_int_int.cells n m) n (List.replicate k (.int .i64 (-1))) = slices_Repeat_int_int.cells (n + k) m := by
  unfold splice slices_Repeat_int_int.cells
  rw [List.take_left' (by simp), List.length_replicate, List.drop_append, List.length_replicate, List.drop_eq_nil_of_le (by simp), List.nil_append, List.drop_replicate]
  rw [← List.append_assoc, List.replicate_append_replicate, show m - n - (n + k - n) = m - (n + k) by omega]
theorem slices_Repeat_int_int.len_ (n m : Nat) (h : n ≤ m) : (slices_Repeat_int_int.cells n m).length = m := by unfold slices_Repeat_int_int.cells; simp; omega
theorem slices_Repeat_int_int.get_ (n m j : Nat) (h : j < n) : (slices_Repeat_int_int.cells n m)[j]? = some (.int .i64 (-1)) := by
  unfold slices_Repeat_int_int.cells
  rw [List.getElem?_append_left (by simpa using h), List.getElem?_replicate, if_pos h]
theorem slices_Repeat_int_int.row_ {w : World} {g m : Nat} (h : w.ownsRow 0 3 1 (.slice (some ⟨g, 0, none⟩) m m) m (madeCells (Value.int .i64 0).cells (m * 1)).toList) : w.heap[g]? = some (.cells (slices_Repeat_int_int.cells 0 m).toArray 3 (0, 0)) := by
  rcases h.2 with ⟨h', _⟩ | ⟨g', cap', cur, h', _, hg, _, _, hsz, htake⟩
  · simp at h'
  · simp only [Value.slice.injEq, Option.some.injEq, Addr.mk.injEq, and_true, true_and] at h'
    obtain ⟨rfl, rfl⟩ := h'
    have e : (madeCells (Value.int .i64 0).cells (m * 1)).toList = List.replicate m (.int .i64 0) := by
      rw [Nat.mul_one]; exact toList_madeCells_one (.int .i64 0) m
    rw [e, List.take_of_length_le (by rw [Array.length_toList, hsz]; exact Nat.le_refl _)] at htake
    have hc : slices_Repeat_int_int.cells 0 m = List.replicate m (.int .i64 0) := by unfold slices_Repeat_int_int.cells; simp
    rw [hg, hc, ← htake]
theorem slices_Repeat_int_int.bel_ {w w3 : World} {nd : Nat} (h : (w.drewN nd).grownBy w3 none) : Below w.heap.size w w3 := pw_below_grown (pw_below_drewN (Below.refl _ w) nd) none (Nat.le_refl _) h (fun k hk => by cases hk)
theorem slices_Repeat_int_int.src_ {w w3 : World} {b : Nat} (hb : Below w.heap.size w w3) (hc : w.cell? ⟨b, 0, none⟩ = some (.int .i64 (-1))) (j : Nat) (v : Value) (hv : [Value.int .i64 (-1)][j]? = some v) : w3.cell? (Addr.add ⟨b, 0, none⟩ j) = some v := by
  cases j with
  | zero =>
    have : v = .int .i64 (-1) := by simpa using hv.symm
    subst this
    exact pw_cell_below hb hc
  | succ j => simp at hv
theorem slices_Repeat_int_int.first_ {w4 : World} {g : Nat} (m : Nat) (h1 : 1 ≤ m) (h : w4.heap[g]? = some (.cells (splice (slices_Repeat_int_int.cells 0 m) 0 [.int .i64 (-1)]).toArray 3 (0, 0))) : w4.heap[g]? = some (.cells (slices_Repeat_int_int.cells 1 m).toArray 3 (0, 0)) := by
  have := slices_Repeat_int_int.splice_ 0 m 1 (by omega)
  rw [show List.replicate 1 (Value.int .i64 (-1)) = [.int .i64 (-1)] from rfl] at this
  rw [h, this]
theorem slices_Repeat_int_int.next_ {w4 : World} {g : Nat} (n m k : Nat) (h1 : n + k ≤ m) (h : w4.heap[g]? = some (.cells (splice (slices_Repeat_int_int.cells n m) n (List.replicate k (.int .i64 (-1)))).toArray 3 (0, 0))) : w4.heap[g]? = some (.cells (slices_Repeat_int_int.cells (n + k) m).toArray 3 (0, 0)) := by
  rw [h, slices_Repeat_int_int.splice_ n m k h1]
theorem slices_Repeat_int_int.srcn_ {w : World} {g n m k : Nat} (h : w.heap[g]? = some (.cells (slices_Repeat_int_int.cells n m).toArray 3 (0, 0))) (hk : k ≤ n) (j : Nat) (v : Value) (hv : (List.replicate k (Value.int .i64 (-1)))[j]? = some v) : w.cell? (Addr.add ⟨g, 0, none⟩ j) = some v := by
  rw [List.getElem?_replicate] at hv
  by_cases hj : j < k
  · rw [if_pos hj] at hv
    have ea : (⟨g, 0, none⟩ : Addr).add j = ⟨g, j, none⟩ := by
      unfold Addr.add
      by_cases h0 : j = 0 <;> simp [h0]
    rw [ea, cell_of_row w g j _ _ (0, 0) h, ← hv]
    have := slices_Repeat_int_int.get_ n m j (by omega)
    simpa using this
  · rw [if_neg hj] at hv; cases hv
theorem slices_Repeat_int_int.info : ∃ i, Tryd.prog.info? 3 = some i ∧ i.zero = some (.int .i64 0) ∧ i.size = 1 ∧ i.bytes = 8 := by
  have h : (Tryd.prog.info? 3).map (fun i => (i.zero, i.size, i.bytes)) = some (some (.int .i64 0), 1, 8) := by kernel_rfl
  obtain ⟨i, hi, he⟩ := Option.map_eq_some_iff.1 h
  simp only [Prod.mk.injEq] at he
  exact ⟨i, hi, he⟩
set_option maxHeartbeats 4000000 in
set_option maxRecDepth 100000 in
theorem slices_Repeat_int_int.calls_ (m : Nat) (h1 : 1 ≤ m) (hm : m ≤ 100000) (b c : Nat) (w : World) (hcell : w.cell? ⟨b, 0, none⟩ = some (.int .i64 (-1))) :
    Calls Tryd.prog 44 #[.slice (some ⟨b, 0, none⟩) 1 c, .int .i64 m] w fun e w' => ∃ g, e = .returned (.slice (some ⟨g, 0, none⟩) m m) ∧ w.heap.size ≤ g ∧ w'.heap[g]? = some (.cells (List.replicate m (.int .i64 (-1))).toArray 3 (0, 0)) ∧ Below w.heap.size w w' := by
  have hmul := slices_Repeat_int_int.mul1 m hm
  have hlt : b < w.heap.size := World.block_lt_of_cell? w _ hcell
  have HC := Aside0.mk hcell
  have HM := Aside0.mk hmul
  clear hcell hmul
  have hu : IntKind.u64.wrap (m : Int) = (m : Int) := by
    have e : IntKind.u64.wrap (m : Int) = (m : Int) % 18446744073709551616 := by simp [IntKind.wrap, IntKind.bits, IntKind.signed]
    rw [e]; omega
  have hi : IntKind.i64.wrap (m : Int) = (m : Int) := by rw [IntKind.wrap_i64]; omega
  have hn0 : ¬ ((m : Int) < 0) := by omega
  have hbig : ¬ ((m : Int) > 9223372036854775807) := by omega
  obtain ⟨i3, hi3, hz3, hs3, hb3⟩ := slices_Repeat_int_int.info
  have I3 := Aside0.mk hi3
  have Z3 := Aside0.mk hz3
  have S3 := Aside0.mk hs3
  have B3 := Aside0.mk hb3
  clear hi3 hz3 hs3 hb3
  go_enter Tryd.func44, Tryd.ntmps44
  go_wp2_with (first | (go_at_call 55; (refine (bits_Mul.calls 1 (m : Int) 0 (m : Int) _ HM.out).mono ?_); rintro e w' ⟨rfl, ⟨nd, rfl⟩⟩) | (at_make; (refine wpList_make_full _ rfl (.tmp 29) (.tmp 29) 26 rfl 0 3 i3 _ 1 Tryd.underlying26 I3.out Z3.out S3.out .i64 .i64 (m : Int) (m : Int) m rfl rfl rfl rfl (by rw [B3.out]; omega) (by unfold maxLen; omega) (Nat.zero_le _) ?_); intro w3 hown hgrow; have ho := Aside0.mk hown; have hgr := Aside0.mk hgrow; clear hown hgrow) | ((with_reducible refine gate_dst (N := 33) rfl ?_); (refine wpList_copy_splice rfl (.tmp 31) (.tmp 32) 26 26 rfl 3 Tryd.underlying26 (by kernel_rfl) (some ⟨w.heap.size, 0, none⟩) (some ⟨b, 0, none⟩) m m 1 c rfl rfl w.heap.size 0 (slices_Repeat_int_int.cells 0 m) 3 (slices_Repeat_int_int.row_ ho.out) [.int .i64 (-1)] (by show 1 = Nat.min 1 m; exact (Nat.min_eq_left h1).symm) (fun _ => ⟨rfl, _, rfl, fun j v hv => ?hsrc⟩) (by rw [slices_Repeat_int_int.len_ 0 m (by omega)]; show 0 + 1 ≤ m; omega) (fun v hv => by cases List.mem_singleton.1 hv; rfl) w.heap.size w (slices_Repeat_int_int.bel_ hgr.out) (Nat.le_refl _) ?_); (case hsrc => exact slices_Repeat_int_int.src_ (slices_Repeat_int_int.bel_ hgr.out) HC.out j v hv); intro w4 HG4 hb4; have HB4 := Aside0.mk hb4; have HG := Aside0.mk (slices_Repeat_int_int.first_ m h1 HG4.out); clear hb4 HG4))
  go_loopg [8] m (fun gg v8 w' => ∃ n : Nat, 1 ≤ n ∧ n ≤ m ∧ m - n ≤ gg ∧ v8 = .int .i64 (n : Int) ∧ Aside0 (w'.heap[w.heap.size]? = some (.cells (slices_Repeat_int_int.cells n m).toArray 3 (0, 0))) ∧ Aside0 (Below w.heap.size w w'))
  case atStart => exact ⟨1, Nat.le_refl _, h1, by omega, rfl, HG, HB4⟩
  case round =>
    obtain ⟨n, hn1, hnm, hgg, rfl, HGn, HBn⟩ := hrel
    clear HG HB4 ho hgr
    by_cases hlt : n < m
    · have hltz : (n : Int) < (m : Int) := by omega
      have hlez : (n : Int) ≤ (m : Int) := by omega
      have hge : (0 : Int) ≤ (n : Int) := by omega
      obtain ⟨k, hk⟩ : ∃ k, k = Nat.min n (m - n) := ⟨_, rfl⟩
      have hk1 : 1 ≤ k := by rw [hk]; exact Nat.le_min.2 ⟨by omega, by omega⟩
      have hk3 : k ≤ m - n := by rw [hk]; exact Nat.min_le_right n (m - n)
      have hk2 : n + k ≤ m := by omega
      have HK := Aside0.mk hk
      clear hk
      have hmn : (m = n) = False := eq_false (by omega)
      have hadd : IntKind.i64.wrap ((n : Int) + (k : Int)) = ((n + k : Nat) : Int) := by rw [IntKind.wrap_i64]; omega
      go_wp2_with fail
      go_region_law (refine step_copy_splice rfl (.tmp 41) (.tmp 44) 26 26 rfl 3 Tryd.underlying26 (by kernel_rfl) (some ⟨w.heap.size, n, none⟩) (some ⟨w.heap.size, 0, none⟩) (m - n) (m - n) n m (by go_simp) (by go_simp) w.heap.size n (slices_Repeat_int_int.cells n m) 3 HGn.out (List.replicate k (.int .i64 (-1))) (by rw [List.length_replicate]; exact HK.out) (fun _ => ⟨rfl, _, rfl, slices_Repeat_int_int.srcn_ HGn.out (by rw [HK.out]; exact Nat.min_le_left _ _)⟩) (by rw [slices_Repeat_int_int.len_ n m hnm, List.length_replicate]; exact hk2) (fun v hv => by rw [List.eq_of_mem_replicate hv]; rfl) w.heap.size w (below_drew HBn.out) (Nat.le_refl _) ?_; intro w5 HG5 hb5; have HB5 := Aside0.mk hb5; have HG6 := Aside0.mk (slices_Repeat_int_int.next_ n m k hk2 HG5.out); clear hb5 HG5)
      go_wp2
      go_roundg (m - (n + k))
      case measure => omega
      case rel => exact ⟨n + k, by omega, hk2, by omega, rfl, HG6, HB5⟩
    · have : n = m := by omega
      subst this
      have hltz : ¬ ((n : Int) < (n : Int)) := by omega
      go_wp2
      go_ret
      refine ⟨w.heap.size, rfl, Nat.le_refl _, ?_, HBn.out⟩
      have := HGn.out
      rw [this]
      unfold slices_Repeat_int_int.cells
      simp

/-! ### stringslite_HasPrefix: function 56 -/
def stringslite_HasPrefix.f (a0 : ByteArray) (a1 : ByteArray) : Option (Bool) := if (a0.size : Int) ≥ (a1.size : Int) then (if 0 ≤ (a1.size : Int) then (if (a1.size : Int) ≤ (a0.size : Int) then (some ((a0.extract 0 ((a1.size : Int) : Int).toNat).toList == a1.toList)) else (none)) else (none)) else (some false)
set_option maxHeartbeats 8000000 in
set_option maxRecDepth 100000 in
theorem stringslite_HasPrefix.calls (a0 : ByteArray) (a1 : ByteArray) (r : Bool) (w : World) (h : stringslite_HasPrefix.f a0 a1 = some r) :
    Calls Tryd.prog 56 #[.string a0, .string a1] w fun e w' => e = .returned (.bool r) ∧ Drawn0 w w' := by
  have H : (if (a0.size : Int) ≥ (a1.size : Int) then (if 0 ≤ (a1.size : Int) then (if (a1.size : Int) ≤ (a0.size : Int) then (some ((a0.extract 0 ((a1.size : Int) : Int).toNat).toList == a1.toList)) else (none)) else (none)) else (some false)) = some r := h
  clear h
  by_cases c3 : (a0.size : Int) ≥ (a1.size : Int)
  · rw [if_pos c3] at H
    have c3b0 : decide ((a1.size : Int) ≤ (a0.size : Int)) = true := decide_eq_true c3
    have c3b1 : decide (a1.size ≤ a0.size) = true := decide_eq_true (Int.ofNat_le.mp c3)
    clear c3
    by_cases c4 : 0 ≤ (a1.size : Int)
    · rw [if_pos c4] at H
      have c4b0 := eq_true c4
      have c4b1 : decide (0 ≤ (a1.size : Int)) = true := decide_eq_true c4
      clear c4
      by_cases c5 : (a1.size : Int) ≤ (a0.size : Int)
      · rw [if_pos c5] at H
        have c5b0 := eq_true c5
        have c5b1 : decide ((a1.size : Int) ≤ (a0.size : Int)) = true := decide_eq_true c5
        clear c5
        obtain rfl := Option.some.inj H
        go_enter Tryd.func56, Tryd.ntmps56
        go_wp2
        go_ret
        exact ⟨by first | rfl | (simp; done) | (simp [*]; done), by repeat (first | exact Drawn0.refl _ | apply Drawn0.step)⟩
      · rw [if_neg c5] at H
        exact absurd H (by simp)
    · rw [if_neg c4] at H
      exact absurd H (by simp)
  · rw [if_neg c3] at H
    have c3b0 : decide ((a1.size : Int) ≤ (a0.size : Int)) = false := decide_eq_false c3
    have c3b1 : decide (a1.size ≤ a0.size) = false := decide_eq_false (fun h => c3 (Int.ofNat_le.mpr h))
    clear c3
    obtain rfl := Option.some.inj H
    go_enter Tryd.func56, Tryd.ntmps56
    go_wp2
    go_ret
    exact ⟨by first | rfl | (simp; done) | (simp [*]; done), by repeat (first | exact Drawn0.refl _ | apply Drawn0.step)⟩

/-! ### strings_HasPrefix: function 45 -/
def strings_HasPrefix.f (a0 : ByteArray) (a1 : ByteArray) : Option (Bool) := (stringslite_HasPrefix.f a0 a1).bind fun t185 => (some t185)
set_option maxHeartbeats 8000000 in
set_option maxRecDepth 100000 in
theorem strings_HasPrefix.calls (a0 : ByteArray) (a1 : ByteArray) (r : Bool) (w : World) (h : strings_HasPrefix.f a0 a1 = some r) :
    Calls Tryd.prog 45 #[.string a0, .string a1] w fun e w' => e = .returned (.bool r) ∧ Drawn0 w w' := by
  have H : ((stringslite_HasPrefix.f a0 a1).bind fun t185 => (some t185)) = some r := h
  clear h
  replace H := Option.bind_eq_some_iff.mp H
  obtain ⟨t185, A30, H⟩ := H
  replace H : (some t185) = some r := H
  have A3 := Aside0.mk A30
  clear A30
  obtain rfl := Option.some.inj H
  go_enter Tryd.func45, Tryd.ntmps45
  go_wp2_with (first | ((with_reducible refine gate_callee (f := 56) rfl ?_); refine goesL_ (some 7) rfl rfl Tryd.func56 (by kernel_rfl) rfl #[.string a0, .string a1] rfl (by (try simp only [List.map_toArray, List.map_cons, List.map_nil]); first | done | rfl | (simp only [List.length_drop, List.length_take]; rfl)) ?_; (with_reducible refine (stringslite_HasPrefix.calls a0 a1 t185 _ A3.out).mono ?_); rintro e w' ⟨rfl, ⟨nd, rfl⟩⟩; refine ⟨_, rfl, ?_⟩))
  go_ret
  exact ⟨by first | rfl | (simp; done) | (simp [*]; done), by repeat (first | exact Drawn0.refl _ | apply Drawn0.step)⟩

/-! ### impl_letterText: function 48 -/
def impl_letterText.f (a0 : Int) : Option (ByteArray) := some (strOfNums (([(wrap64 (97 + a0)) % 256] : List Int)))
set_option maxHeartbeats 8000000 in
set_option maxRecDepth 100000 in
theorem impl_letterText.calls (a0 : Int) (r : ByteArray) (w : World) (h : impl_letterText.f a0 = some r) :
    Calls Tryd.prog 48 #[.int .i64 a0] w fun e w' => e = .returned (.string r) ∧ Below w.heap.size w w' := by
  have HB := Aside0.mk (Below.refl w.heap.size w)
  have H : (some (strOfNums (([(wrap64 (97 + a0)) % 256] : List Int)))) = some r := h
  clear h
  obtain ⟨y186, hy186⟩ : ∃ y_ : List Int, y_ = (([(wrap64 (97 + a0)) % 256] : List Int)) := ⟨_, rfl⟩
  replace H : (some (strOfNums y186)) = some r := by first | (rw [hy186]; with_reducible exact H) | (have H2_ := (Option.bind_some _ _).symm.trans H; rw [hy186]; with_reducible exact H2_) | (have H2_ := (Option.bind_some _ _).symm.trans H; with_reducible exact H2_) | with_reducible exact H | (rw [hy186]; exact H) | exact H
  have Ny186 := Aside0.mk hy186
  clear hy186
  obtain rfl := Option.some.inj H
  go_enter Tryd.func48, Tryd.ntmps48
  go_wp2_with (first | ((with_reducible refine gate_dst (N := 6) rfl ?_); refine Kd.R_lit (Kd.int .u8) _ 5 ?hg (N := 6) ?hd (xs := ([(wrap64 (97 + a0)) % 256] : List Int)) (inner := [.int .u8 ((wrap64 (97 + a0)) % 256)]) (ok := fun _ => True) (okp := fun _ => True) ?hr ?hp (fun _ hk => hk) trivial (Below.refl _ _) (Nat.le_refl _) (by simp) ?_; (case hd => rfl); (case hg => rfl); (case hr => first | (go_simp; done) | (go_simp; rfl)); (case hp => exact (Reps.one (show Kd.M (Kd.int .u8) _ _ _ ((wrap64 (97 + a0)) % 256) [.int .u8 ((wrap64 (97 + a0)) % 256)] from rfl) (Reps.none _ _))); intro v187 w2 ho3 hb hg_ hnew_; clear hg_ hnew_; (first | rw [← Ny186.out] at ho3 | (simp only [Int.reduceToNat] at ho3; rw [← Ny186.out] at ho3)); have n0_ := Aside0.mk (Kd.R_lower ho3 (below_size (by repeat (first | (with_reducible first | exact HB.out | apply below_alloc | apply pw_below_drewN | apply below_drew1) | exact HB.out)))); have n1_ := Aside0.mk (below_step (by repeat (first | (with_reducible first | exact HB.out | apply below_alloc | apply pw_below_drewN | apply below_drew1) | exact HB.out)) hb); clear HB; have HO188 := n0_; have HB := n1_; clear n0_ n1_; clear hb ho3; have hcv4 := own_string (P := Tryd.prog) Tryd.underlying60 Tryd.underlying5 Tryd.underlying9 (Kd.own_of_R HO188.out)))
  go_ret
  exact ⟨by first | rfl | (simp [errW_none, errW_some] <;> rfl) | (simp [*, errW_none, errW_some] <;> rfl), by repeat (first | (with_reducible first | exact HB.out | apply below_alloc | apply pw_below_drewN | apply below_drew1) | exact HB.out)⟩

/-! ### impl_bestReading: function 32 (by hand) -/
/-! the best reading: what the loops reckon -/
def impl_bestReading.fits (s c : ByteArray) (i : Nat) : Bool := decide (i + c.size ≤ s.size) && (s.extract i (i + c.size)).toList == c.toList
theorem impl_bestReading.pre_ (s c : ByteArray) (i : Nat) (hs : s.size ≤ 1000) (hc : c.size ≤ 1000) (hi : i ≤ s.size) : strings_HasPrefix.f (s.extract i s.size) c = some (impl_bestReading.fits s c i) := by
  have hz : (s.extract i s.size).size = s.size - i := by rw [ByteArray.size_extract, Nat.min_self]
  have e : (s.extract i s.size).extract 0 c.size = s.extract i (min (i + c.size) s.size) := by
    rw [ByteArray.extract_extract, Nat.add_zero]
  simp only [strings_HasPrefix.f, stringslite_HasPrefix.f, hz, impl_bestReading.fits, Int.toNat_natCast]
  by_cases h : i + c.size ≤ s.size
  · rw [if_pos (by omega), if_pos (by omega), if_pos (by omega), e, Nat.min_eq_left h]
    simp only [h, decide_true, Bool.true_and, Option.bind_some]
  · rw [if_neg (by omega)]
    simp only [h, decide_false, Bool.false_and, Option.bind_some]
theorem impl_bestReading.fits_le (s c : ByteArray) (i : Nat) (h : impl_bestReading.fits s c i = true) : i + c.size ≤ s.size := by
  simp only [impl_bestReading.fits, Bool.and_eq_true, decide_eq_true_eq] at h
  exact h.1
/-- is this the letter by which the best reading goes on -/
def impl_bestReading.hit (s : ByteArray) (x : List Int) (i : Nat) (c : ByteArray) : Bool := impl_bestReading.fits s c i && (x.getD (i + c.size) 0 == wrap64 (x.getD i 0 - 1)) && decide (0 ≤ x.getD (i + c.size) 0)
set_option maxHeartbeats 4000000 in
set_option maxRecDepth 100000 in
theorem impl_bestReading.closure (s : ByteArray) (hs : s.size ≤ 1000) (x : List Int) (hx : x.length = s.size + 1) (i : Nat) (hi : i < s.size) (bs ba bl L : Nat) (W : World)
    (Hs : W.cell? ⟨bs, 0, none⟩ = some (.string s)) (Ha : W.cell? ⟨ba, 0, none⟩ = some (.int .i64 (i : Int))) (Hl : W.cell? ⟨bl, 0, none⟩ = some (.slice (some ⟨L, 0, none⟩) (s.size + 1) (s.size + 1)))
    (Hx : ∀ j, j < s.size + 1 → W.cell? ⟨L, j, none⟩ = some (.int .i64 (x.getD j 0))) (c : ByteArray) (hc : c.size ≤ 1000) :
    Calls Tryd.prog 47 #[.string c, .pointer (some ⟨bs, 0, none⟩), .pointer (some ⟨ba, 0, none⟩), .pointer (some ⟨bl, 0, none⟩)] W fun e w' => e = .returned (.bool (impl_bestReading.hit s x i c)) ∧ ∃ q, w' = W.drewN q := by
  have hp := impl_bestReading.pre_ s c i hs hc (by omega)
  have hxi := Hx i (by omega)
  have HX := Aside0.mk Hx
  clear Hx
  have i0 : (0 : Int) ≤ (i : Int) := by omega
  have i1 : (i : Int) ≤ (s.size : Int) := by omega
  have i2 : (i : Int) < (s.size : Int) + 1 := by omega
  by_cases hf : impl_bestReading.fits s c i = true
  · rw [hf] at hp
    have HP := Aside0.mk hp
    clear hp
    have hle := impl_bestReading.fits_le s c i hf
    have hxc := HX.out (i + c.size) (by omega)
    have hadd : IntKind.i64.wrap ((i : Int) + (c.size : Int)) = ((i + c.size : Nat) : Int) := by rw [IntKind.wrap_i64]; omega
    have j0 : (0 : Int) ≤ ((i + c.size : Nat) : Int) := by omega
    have j2 : ((i + c.size : Nat) : Int) < (s.size : Int) + 1 := by omega
    have hsub : IntKind.i64.wrap (x.getD i 0 - 1) = wrap64 (x.getD i 0 - 1) := i64_w _
    have hhit : impl_bestReading.hit s x i c = ((x.getD (i + c.size) 0 == wrap64 (x.getD i 0 - 1)) && decide (0 ≤ x.getD (i + c.size) 0)) := by unfold impl_bestReading.hit; rw [hf, Bool.true_and]
    rw [hhit]
    clear hhit hle
    generalize x.getD (i + c.size) 0 = p at *
    generalize x.getD i 0 = q at *
    have HF := Aside0.mk hf
    clear hf hs hc
    by_cases he : p = wrap64 (q - 1)
    · have he1 : (p == wrap64 (q - 1)) = true := by simpa using he
      rw [he1, Bool.true_and]
      go_enter Tryd.func47, Tryd.ntmps47
      go_wp2_with fail
      go_quiet (first | (go_at_call 45; (refine (strings_HasPrefix.calls (s.extract i s.size) c true _ HP.out).mono ?_); rintro e w' ⟨rfl, ⟨nd, rfl⟩⟩; exact ⟨rfl, _, World.drewN_drewN _ _ _⟩))
      go_wp2
      go_ret
      exact ⟨by first | rfl | (simp; done) | (simp [he]; done), _, rfl⟩
    · have he1 : (p == wrap64 (q - 1)) = false := by simpa using he
      rw [he1, Bool.false_and]
      go_enter Tryd.func47, Tryd.ntmps47
      go_wp2_with fail
      go_quiet (first | (go_at_call 45; (refine (strings_HasPrefix.calls (s.extract i s.size) c true _ HP.out).mono ?_); rintro e w' ⟨rfl, ⟨nd, rfl⟩⟩; exact ⟨rfl, _, World.drewN_drewN _ _ _⟩))
      go_wp2
      go_ret
      exact ⟨rfl, _, rfl⟩
  · have hf2 := (Bool.not_eq_true _).mp hf
    rw [hf2] at hp
    have HP := Aside0.mk hp
    clear hp
    have hhit : impl_bestReading.hit s x i c = false := by unfold impl_bestReading.hit; rw [hf2, Bool.false_and, Bool.false_and]
    rw [hhit]
    clear hhit hf hf2
    go_enter Tryd.func47, Tryd.ntmps47
    go_wp2_with fail
    go_quiet (first | (go_at_call 45; (refine (strings_HasPrefix.calls (s.extract i s.size) c false _ HP.out).mono ?_); rintro e w' ⟨rfl, ⟨nd, rfl⟩⟩; exact ⟨rfl, _, World.drewN_drewN _ _ _⟩))
    go_wp2
    go_ret
    exact ⟨rfl, _, rfl⟩
/-- the first place at which something is so, or -1 -/
def impl_bestReading.idx (p : ByteArray → Bool) : List ByteArray → Nat → Int
  | [], _ => -1
  | c :: l, k => if p c = true then (k : Int) else impl_bestReading.idx p l (k + 1)
set_option maxHeartbeats 4000000 in
set_option maxRecDepth 100000 in
theorem impl_bestReading.index (p : ByteArray → Bool) (g : Nat) (lb : Array Value) (eg : ∀ args w, (callFunc g args).run Tryd.prog w = .ok (.enter g args) w) (b off cp : Nat) (zs : List ByteArray) (w : World) (hbig : zs.length ≤ 1000)
    (hp : ∀ c ∈ zs, ∀ q : Nat, Calls Tryd.prog g (#[.string c] ++ lb) (w.drewN q) fun e w' => e = .returned (.bool (p c)) ∧ ∃ q', w' = (w.drewN q).drewN q')
    (hc : ∀ j (hj : j < zs.length), w.cell? ⟨b, off + j, none⟩ = some (.string zs[j])) :
    Calls Tryd.prog 46 #[.slice (some ⟨b, off, none⟩) zs.length cp, .func (.func g) #[] lb] w fun e w' => e = .returned (.int .i64 (impl_bestReading.idx p zs 0)) ∧ ∃ q, w' = w.drewN q := by
  have HP := Aside0.mk hp
  have HC := Aside0.mk hc
  clear hp hc
  go_enter Tryd.func46, Tryd.ntmps46
  go_wp2
  go_loopg [5, 8] zs.length (fun gg _ s8 wr => ∃ kk q : Nat, kk ≤ zs.length ∧ zs.length - kk ≤ gg ∧ s8 = .int .i64 (kk : Int) ∧ wr = w.drewN q ∧ Aside0 (impl_bestReading.idx p zs 0 = impl_bestReading.idx p (zs.drop kk) kk))
  case atStart => exact ⟨0, 0, Nat.zero_le _, by omega, rfl, rfl, ⟨by rw [List.drop_zero]⟩⟩
  case round =>
    obtain ⟨kk, q, hkk, hg, rfl, rfl, A⟩ := hrel
    by_cases hlt : kk < zs.length
    · have hltz : (kk : Int) < (zs.length : Int) := by omega
      have k0 : (0 : Int) ≤ (kk : Int) := by omega
      have hcell : w.cell? ⟨b, off + kk, none⟩ = some (.string zs[kk]) := HC.out kk hlt
      have hcall := HP.out zs[kk] (List.getElem_mem hlt)
      have hdr : impl_bestReading.idx p (zs.drop kk) kk = if p zs[kk] = true then (kk : Int) else impl_bestReading.idx p (zs.drop (kk + 1)) (kk + 1) := by
        rw [List.drop_eq_getElem_cons hlt]; rfl
      have A' := Aside0.mk (A.out.trans hdr)
      clear hdr A
      generalize zs[kk] = y at hcell hcall A'
      cases hq : p y with
      | true =>
        rw [hq] at hcall A'
        go_wp2_with (go_at_fn g; refine (hcall _).mono ?_; rintro e w' ⟨rfl, q', rfl⟩)
        go_ret
        have this : impl_bestReading.idx p zs 0 = (kk : Int) := by simpa using A'.out
        exact ⟨by rw [this]; rfl, _, rfl⟩
      | false =>
        rw [hq] at hcall A'
        go_wp2_with (go_at_fn g; refine (hcall _).mono ?_; rintro e w' ⟨rfl, q', rfl⟩)
        go_roundg (zs.length - (kk + 1))
        case measure => omega
        case rel =>
          have this : impl_bestReading.idx p zs 0 = impl_bestReading.idx p (zs.drop (kk + 1)) (kk + 1) := by simpa using A'.out
          exact ⟨kk + 1, _, by omega, by omega, by go_num, rfl, ⟨this⟩⟩
    · have hltz : ¬ (kk : Int) < (zs.length : Int) := by omega
      have : kk = zs.length := by omega
      subst this
      go_wp2
      go_ret
      have := A.out
      rw [List.drop_length] at this
      exact ⟨by rw [this]; rfl, _, rfl⟩
/-! the first loops: the counts -/
def impl_bestReading.better (a b : Int) : Bool := (impl_ShortestReading_1.f a b).getD false
def impl_bestReading.upd (s : ByteArray) (i : Nat) (c : ByteArray) (x : List Int) : List Int :=
  if impl_bestReading.fits s c i = true then (if x.getD (i + c.size) 0 < 0 then x else (if x.getD i 0 < 0 then x.set i (wrap64 (x.getD (i + c.size) 0 + 1)) else (if impl_bestReading.better (wrap64 (x.getD (i + c.size) 0 + 1)) (x.getD i 0) = true then x.set i (wrap64 (x.getD (i + c.size) 0 + 1)) else x))) else x
def impl_bestReading.inn (s : ByteArray) (i : Nat) : List ByteArray → List Int → List Int
  | [], x => x
  | c :: l, x => impl_bestReading.inn s i l (impl_bestReading.upd s i c x)
def impl_bestReading.out (s : ByteArray) (l : List ByteArray) : Nat → List Int → List Int
  | 0, x => x
  | i + 1, x => impl_bestReading.out s l i (impl_bestReading.inn s i l x)
theorem impl_bestReading.upd_len (s : ByteArray) (i : Nat) (c : ByteArray) (x : List Int) : (impl_bestReading.upd s i c x).length = x.length := by
  unfold impl_bestReading.upd
  repeat' split
  all_goals simp
/-- what lies where, while the counts are being reckoned -/
structure impl_bestReading.St (w : World) (A : Option Addr) (c n : Nat) (s : ByteArray) (bl L : Nat) (x : List Int) (wr : World) : Prop where
  ct : wr.cell? ⟨w.heap.size, 0, none⟩ = some (.slice A n c)
  cs : wr.cell? ⟨w.heap.size + 1, 0, none⟩ = some (.string s)
  cv : wr.cell? ⟨bl, 0, none⟩ = some (.slice (some ⟨L, 0, none⟩) (s.size + 1) (s.size + 1))
  cx : ∀ j, j < s.size + 1 → wr.cell? ⟨L, j, none⟩ = some (.int .i64 (x.getD j 0))
  fz : ∀ j, wr.frozen? ⟨L, j, none⟩ = false
  len : x.length = s.size + 1
  bel : Below w.heap.size w wr
  lo : w.heap.size ≤ L
  n0 : L ≠ w.heap.size
  n1 : L ≠ w.heap.size + 1
  n2 : L ≠ bl
theorem impl_bestReading.St.drewN {w : World} {A : Option Addr} {c n : Nat} {s : ByteArray} {bl L : Nat} {x : List Int} {wr : World} (h : impl_bestReading.St w A c n s bl L x wr) (q : Nat) : impl_bestReading.St w A c n s bl L x (wr.drewN q) :=
  ⟨h.ct, h.cs, h.cv, h.cx, h.fz, h.len, pw_below_drewN h.bel q, h.lo, h.n0, h.n1, h.n2⟩
theorem impl_bestReading.St.below {w : World} {A : Option Addr} {c n : Nat} {s : ByteArray} {bl L : Nat} {x : List Int} {wr wr' : World} (h : impl_bestReading.St w A c n s bl L x wr) (hb : Below wr.heap.size wr wr') : impl_bestReading.St w A c n s bl L x wr' := by
  have hL : L < wr.heap.size := World.block_lt_of_cell? wr _ (h.cx 0 (by omega))
  exact ⟨pw_cell_below hb h.ct, pw_cell_below hb h.cs, pw_cell_below hb h.cv, fun j hj => pw_cell_below hb (h.cx j hj), fun j => by
    rw [hb.frozen (p := ⟨L, j, none⟩) hL]
    exact h.fz j, h.len, below_step h.bel hb, h.lo, h.n0, h.n1, h.n2⟩
theorem impl_bestReading.St.set {w : World} {A : Option Addr} {c n : Nat} {s : ByteArray} {bl L : Nat} {x : List Int} {wr : World} (h : impl_bestReading.St w A c n s bl L x wr) (i : Nat) (hi : i < s.size + 1) (v : Int) : impl_bestReading.St w A c n s bl L (x.set i v) (wr.setCell ⟨L, i, none⟩ (.int .i64 v)) := by
  have nb : ∀ (b j : Nat), L ≠ b → (⟨L, i, none⟩ : Addr) ≠ ⟨b, j, none⟩ := fun b j hb e => hb (congrArg Addr.block e)
  refine ⟨?_, ?_, ?_, fun j hj => ?_, fun j => ?_, by rw [List.length_set]; exact h.len, below_set h.bel h.lo, h.lo, h.n0, h.n1, h.n2⟩
  · rw [World.cell?_setCell_other _ _ _ _ (nb _ _ h.n0)]; exact h.ct
  · rw [World.cell?_setCell_other _ _ _ _ (nb _ _ h.n1)]; exact h.cs
  · rw [World.cell?_setCell_other _ _ _ _ (nb _ _ h.n2)]; exact h.cv
  · by_cases e : i = j
    · subst e
      rw [World.cell?_setCell_same _ _ _ (h.cx i hi), List.getD_eq_getElem?_getD, List.getElem?_set, if_pos rfl, if_pos (by rw [h.len]; exact hi)]
      rfl
    · rw [World.cell?_setCell_other _ _ _ _ (fun q => e (congrArg Addr.off q)), h.cx j hj, List.getD_eq_getElem?_getD, List.getD_eq_getElem?_getD, List.getElem?_set, if_neg e]
  · rw [World.frozen?_setCell]; exact h.fz j
def impl_bestReading.good (l : List ByteArray) (s : ByteArray) : Bool := decide (0 < l.length) && decide (l.length ≤ 1000) && decide (s.size ≤ 1000) && l.all (fun c => decide (0 < c.size) && decide (c.size ≤ 1000))
def impl_bestReading.txt (j : Int) : ByteArray := strOfNums [(wrap64 (97 + j)) % 256]
def impl_bestReading.go (s : ByteArray) (l : List ByteArray) (x : List Int) : Nat → Nat → ByteArray → Option ByteArray
  | 0, _, _ => none
  | k + 1, i, o => if i < s.size then (if 0 ≤ impl_bestReading.idx (impl_bestReading.hit s x i) l 0 then impl_bestReading.go s l x k (i + (l.getD (impl_bestReading.idx (impl_bestReading.hit s x i) l 0).toNat ByteArray.empty).size) (o ++ impl_bestReading.txt (impl_bestReading.idx (impl_bestReading.hit s x i) l 0)) else none) else some o
def impl_bestReading.counts (l : List ByteArray) (s : ByteArray) : List Int := impl_bestReading.out s l s.size ((List.replicate (s.size + 1) (-1)).set s.size 0)
def impl_bestReading.f (l0_0 : List ByteArray) (a1 : ByteArray) : Option (ByteArray × Bool) :=
  (impl_isRead.f 5000000 l0_0 a1).bind fun t => if t = true then (if impl_bestReading.good l0_0 a1 = true then (if (impl_bestReading.counts l0_0 a1).getD 0 0 < 0 then some (⟨#[]⟩, false) else (impl_bestReading.go a1 l0_0 (impl_bestReading.counts l0_0 a1) (a1.size + 1) 0 ⟨#[]⟩).bind fun r => some (r, true)) else none) else some (⟨#[]⟩, false)
theorem impl_bestReading.cells_ {w : World} {A : Option Addr} {l : List ByteArray} (hr : Kd.C Kd.string w A l.length l) (hl : 0 < l.length) : ∃ p q, A = some ⟨p, q, none⟩ ∧ ∀ j (hj : j < l.length), w.cell? ⟨p, q + j, none⟩ = some (.string l[j]) := by
  obtain ⟨ad, rfl, hcell⟩ := hr.2.2 hl
  obtain ⟨bk, o, el⟩ := ad
  have hcells : ∀ (j : Nat) x, l[j]? = some x → w.cell? (Addr.add ⟨bk, o, el⟩ j) = some (.string x) := by
    intro j x hx
    obtain ⟨c, hl, hK, hcs⟩ := hcell j x hx
    have hK' : c = [Value.string x] := hK
    subst hK'
    have := hcs 0 (.string x) rfl
    have e : j * Kd.sz Kd.string + 0 = j := by show j * 1 + 0 = j; omega
    rw [e] at this
    exact this
  have h0 := hcells 0 _ (List.getElem?_eq_getElem hl)
  have hel : el = none := by
    unfold World.cell? at h0
    cases hb : w.heap[bk]? with
    | none => simp [Addr.add, hb] at h0
    | some bl =>
      cases el with
      | none => rfl
      | some e => cases bl <;> simp [Addr.add, hb] at h0
  subst hel
  refine ⟨bk, o, rfl, fun j hj => ?_⟩
  have := hcells j _ (List.getElem?_eq_getElem hj)
  rw [show (Addr.add ⟨bk, o, none⟩ j) = ⟨bk, o + j, none⟩ from by unfold Addr.add; split <;> simp_all] at this
  exact this
theorem impl_bestReading.inn_drop (s : ByteArray) (i : Nat) (l : List ByteArray) (j : Nat) (hj : j < l.length) (x : List Int) : impl_bestReading.inn s i (l.drop j) x = impl_bestReading.inn s i (l.drop (j + 1)) (impl_bestReading.upd s i l[j] x) := by
  rw [List.drop_eq_getElem_cons hj]; rfl
theorem impl_bestReading.St.far {w : World} {A : Option Addr} {c n : Nat} {s : ByteArray} {bl L : Nat} {x : List Int} {wr : World} (h : impl_bestReading.St w A c n s bl L x wr) (ba : Nat) (v : Value) (hlo : w.heap.size ≤ ba) (h0 : ba ≠ w.heap.size) (h1 : ba ≠ w.heap.size + 1) (h2 : ba ≠ bl) (h3 : ba ≠ L) : impl_bestReading.St w A c n s bl L x (wr.setCell ⟨ba, 0, none⟩ v) := by
  have nb : ∀ (b j : Nat), ba ≠ b → (⟨ba, 0, none⟩ : Addr) ≠ ⟨b, j, none⟩ := fun b j hb e => hb (congrArg Addr.block e)
  refine ⟨?_, ?_, ?_, fun j hj => ?_, fun j => ?_, h.len, below_set h.bel hlo, h.lo, h.n0, h.n1, h.n2⟩
  · rw [World.cell?_setCell_other _ _ _ _ (nb _ _ h0)]; exact h.ct
  · rw [World.cell?_setCell_other _ _ _ _ (nb _ _ h1)]; exact h.cs
  · rw [World.cell?_setCell_other _ _ _ _ (nb _ _ h2)]; exact h.cv
  · rw [World.cell?_setCell_other _ _ _ _ (nb _ _ h3)]; exact h.cx j hj
  · rw [World.frozen?_setCell]; exact h.fz j
/-- a new variable is none of the old ones -/
theorem impl_bestReading.St.fresh {w : World} {A : Option Addr} {c n : Nat} {s : ByteArray} {bl L : Nat} {x : List Int} {wr : World} (h : impl_bestReading.St w A c n s bl L x wr) : w.heap.size ≤ wr.heap.size ∧ wr.heap.size ≠ w.heap.size ∧ wr.heap.size ≠ w.heap.size + 1 ∧ wr.heap.size ≠ bl ∧ wr.heap.size ≠ L := by
  have a := World.block_lt_of_cell? wr _ h.ct
  have b := World.block_lt_of_cell? wr _ h.cs
  have d := World.block_lt_of_cell? wr _ h.cv
  have e := World.block_lt_of_cell? wr _ (h.cx 0 (by omega))
  simp only at a b d e
  have := h.bel.size
  refine ⟨this, ?_, ?_, ?_, ?_⟩ <;> omega
theorem impl_bestReading.idx_at (p : ByteArray → Bool) : ∀ (l : List ByteArray) (k : Nat), 0 ≤ impl_bestReading.idx p l k → ∃ (j : Nat) (hj : j < l.length), impl_bestReading.idx p l k = ((k + j : Nat) : Int) ∧ p l[j] = true
  | [], k, h => by simp [impl_bestReading.idx] at h
  | c :: l, k, h => by
    by_cases hc : p c = true
    · exact ⟨0, by simp, by simp [impl_bestReading.idx, hc], by simpa using hc⟩
    · have e : impl_bestReading.idx p (c :: l) k = impl_bestReading.idx p l (k + 1) := by simp [impl_bestReading.idx, hc]
      rw [e] at h
      obtain ⟨j, hj, e1, e2⟩ := impl_bestReading.idx_at p l (k + 1) h
      exact ⟨j + 1, by simpa using hj, by rw [e, e1]; omega, by simpa using e2⟩
theorem impl_bestReading.txt_size (j : Int) : (impl_bestReading.txt j).size = 1 := rfl
theorem impl_bestReading.new_cell (W : World) (v : Value) (t b : Nat) (hb : W.heap.size = b) : (W.alloc (.cells #[v] t)).cell? ⟨b, 0, none⟩ = some v := by subst hb; simp
theorem impl_bestReading.new_frozen (W : World) (v : Value) (t b : Nat) (hb : W.heap.size = b) : (W.alloc (.cells #[v] t)).frozen? ⟨b, 0, none⟩ = false := by subst hb; simp
theorem impl_bestReading.St.start {w w1 w3 : World} {A : Option Addr} {c n g : Nat} {s : ByteArray} {o1 o2 o3 : Obj} (hb1 : Below ((w.alloc o1).alloc o2).heap.size ((w.alloc o1).alloc o2) w1) (ct1 : w1.cell? ⟨w.heap.size, 0, none⟩ = some (.slice A n c)) (cs1 : w1.cell? ⟨w.heap.size + 1, 0, none⟩ = some (.string s))
    (hg1 : (w1.alloc o3).heap.size ≤ g) (hg2 : w3.heap[g]? = some (.cells (List.replicate (s.size + 1) (.int .i64 (-1))).toArray 3 (0, 0))) (hb3 : Below (w1.alloc o3).heap.size (w1.alloc o3) w3) :
    impl_bestReading.St w A c n s w3.heap.size g (List.replicate (s.size + 1) (-1)) (w3.alloc (.cells #[.slice (some ⟨g, 0, none⟩) (s.size + 1) (s.size + 1)] 26)) := by
  have hgl : g < w3.heap.size := (Array.getElem?_eq_some_iff.1 hg2).1
  have s1 : w1.heap.size = (w1.alloc o3).heap.size - 1 := by simp
  have s0 : w.heap.size + 2 ≤ w1.heap.size := by have := hb1.size; simp at this; omega
  have s3 : w1.heap.size + 1 ≤ g := by simp at hg1; omega
  have b1 : Below w.heap.size w w1 := below_step (below_alloc (below_alloc (Below.refl _ _) _) _) hb1
  have b3 : Below w1.heap.size w1 w3 := below_step (below_alloc (Below.refl _ _) _) hb3
  have ba : ∀ o, Below w3.heap.size w3 (w3.alloc o) := fun o => below_alloc (Below.refl _ _) o
  refine ⟨pw_cell_below (ba _) (pw_cell_below b3 ct1), pw_cell_below (ba _) (pw_cell_below b3 cs1), by simp, fun j hj => pw_cell_below (ba _) ?_, fun j => ?_, by simp, below_step (below_step b1 b3) (ba _), by omega, by omega, by omega, by omega⟩
  · rw [cell_of_row w3 g j _ _ (0, 0) hg2]
    simp [hj]
  · rw [(ba _).frozen (p := ⟨g, j, none⟩) hgl]
    exact frozen_of_row w3 g j _ _ hg2
set_option maxHeartbeats 8000000 in
set_option maxRecDepth 100000 in
theorem impl_bestReading.read (A0_0 : Option Addr) (c0_0 : Nat) (l0_0 : List ByteArray) (a1 : ByteArray) (r0 : ByteArray) (r1 : Bool) (w : World) (hr0_0 : Kd.C Kd.string w A0_0 l0_0.length l0_0) (hc0_0 : l0_0.length ≤ c0_0)
    (hrd : impl_isRead.f 5000000 l0_0 a1 = some true) (hg : impl_bestReading.good l0_0 a1 = true) (h : (if (impl_bestReading.counts l0_0 a1).getD 0 0 < 0 then some (⟨#[]⟩, false) else (impl_bestReading.go a1 l0_0 (impl_bestReading.counts l0_0 a1) (a1.size + 1) 0 ⟨#[]⟩).bind fun r => some (r, true)) = some (r0, r1)) :
    Calls Tryd.prog 32 #[.agg #[.slice A0_0 l0_0.length c0_0], .string a1, .func (.func 34) #[] #[]] w fun e w' => e = .returned (.tuple #[.string r0, .bool r1]) ∧ Below w.heap.size w w' := by
  unfold impl_bestReading.good at hg
  simp only [Bool.and_eq_true, decide_eq_true_eq] at hg
  obtain ⟨⟨⟨hl0, hl1⟩, hs1⟩, hall⟩ := hg
  obtain ⟨p0, q0, rfl, hpq⟩ := impl_bestReading.cells_ hr0_0 hl0
  have HPQ := Aside0.mk hpq
  clear hpq
  have HR := Aside0.mk hr0_0
  have HRD := Aside0.mk hrd
  have HH := Aside0.mk h
  clear hr0_0 hrd h
  have HALL := Aside0.mk hall
  clear hall
  have hadd : IntKind.i64.wrap ((a1.size : Int) + 1) = ((a1.size + 1 : Nat) : Int) := by rw [IntKind.wrap_i64]; omega
  go_enter Tryd.func32, Tryd.ntmps32
  go_upto_region 4 with (first | (go_at_call 38; (refine (impl_isRead.calls 5000000 (some ⟨p0, q0, none⟩) c0_0 l0_0 a1 true _ (Kd.C_below HR.out (below_alloc (below_alloc (Below.refl _ _) _) _)) hc0_0 HRD.out).mono ?_); rintro e w1 ⟨rfl, hb1⟩; have ct1 : w1.cell? ⟨w.heap.size, 0, none⟩ = some (.slice (some ⟨p0, q0, none⟩) l0_0.length c0_0) := pw_cell_below hb1 (by simp); have cs1 : w1.cell? ⟨w.heap.size + 1, 0, none⟩ = some (.string a1) := pw_cell_below hb1 (by simp); have cs2 : ∀ o, (w1.alloc o).cell? ⟨w.heap.size + 1, 0, none⟩ = some (.string a1) := fun o => pw_cell_below (below_alloc (Below.refl _ _) _) cs1; have HB1 := Aside0.mk hb1; clear hb1) | (go_at_call 44; (refine calls_of_args (args' := #[.slice (some ⟨w1.heap.size, 0, none⟩) 1 1, .int .i64 ((a1.size + 1 : Nat) : Int)]) (by simp) ?_); (refine (slices_Repeat_int_int.calls_ (a1.size + 1) (by omega) (by omega) w1.heap.size 1 _ (by simp)).mono ?_); rintro e w3 ⟨g, rfl, hg1, hg2, hb3⟩; have HG1 := Aside0.mk hg1; have HG2 := Aside0.mk hg2; have HB3 := Aside0.mk hb3; clear hg1 hg2 hb3))
  have S := Aside0.mk (impl_bestReading.St.start HB1.out ct1 cs1 HG1.out HG2.out HB3.out)
  clear cs2 ct1 cs1 HG1 HG2 HB3 HB1
  generalize w3.alloc (Obj.cells #[Value.slice (some ⟨g, 0, none⟩) (a1.size + 1) (a1.size + 1)] 26) = wr at S ⊢
  generalize w3.heap.size = bl at S ⊢
  have cv := S.out.cv
  have cs := S.out.cs
  have cx := S.out.cx a1.size (by omega)
  have fz := S.out.fz a1.size
  have i0 : (0 : Int) ≤ (a1.size : Int) := by omega
  have i1 : (a1.size : Int) < (a1.size : Int) + 1 := by omega
  go_upto_region 5 with fail
  have S2 := Aside0.mk (S.out.set a1.size (by omega) 0)
  clear cv cs cx fz S
  generalize wr.setCell ⟨g, a1.size, none⟩ (Value.int .i64 0) = wr1 at S2 ⊢
  have cs := S2.out.cs
  have hsub0 : IntKind.i64.wrap ((a1.size : Int) - 1) = (a1.size : Int) - 1 := by rw [IntKind.wrap_i64]; omega
  go_wp2_with fail
  go_loopg [9] a1.size (fun gg v9 w' => ∃ (i : Nat) (x : List Int), v9 = .int .i64 ((i : Int) - 1) ∧ i ≤ a1.size ∧ i ≤ gg ∧ Aside0 (impl_bestReading.St w (some ⟨p0, q0, none⟩) c0_0 l0_0.length a1 bl g x w') ∧ Aside0 (impl_bestReading.out a1 l0_0 i x = impl_bestReading.counts l0_0 a1))
  case atStart => exact ⟨a1.size, _, rfl, Nat.le_refl _, Nat.le_refl _, S2, ⟨rfl⟩⟩
  case round =>
    clear S2 cs i0 i1 hsub0
    obtain ⟨i, x, rfl, hin, hgg, S, C⟩ := hrel
    cases i with
    | zero =>
      have hx : x = impl_bestReading.counts l0_0 a1 := C.out
      have HX := Aside0.mk hx
      clear C hgg hin
      have hh := HH.out
      rw [← hx] at hh
      have H2 := Aside0.mk hh
      clear hh hx HH
      have cv := S.out.cv
      have cx0 := S.out.cx 0 (by omega)
      have n0 : (0 : Int) < (a1.size : Int) + 1 := by omega
      generalize hp : x.getD 0 0 = p at cx0 H2
      clear hp
      by_cases hp0 : p < 0
      · have hd : decide (p < 0) = true := decide_eq_true hp0
        have h3 := H2.out
        rw [if_pos hp0] at h3
        obtain ⟨rfl, rfl⟩ := Prod.mk.inj (Option.some.inj h3)
        clear h3 H2
        go_wp2_with fail
        go_ret2
        exact ⟨rfl, S.out.bel⟩
      · have hd : decide (p < 0) = false := decide_eq_false hp0
        have h3 := H2.out
        rw [if_neg hp0] at h3
        obtain ⟨R, hR, hR2⟩ := Option.bind_eq_some_iff.1 h3
        obtain ⟨rfl, rfl⟩ := Prod.mk.inj (Option.some.inj hR2)
        have HR3 := Aside0.mk hR
        clear h3 H2 hR2 hR
        have hmf : ∀ (fn : Fn) (first cap : Array Value) (w : World), (Instr.makeFunc fn first cap).run Tryd.prog w = .ok (.func fn first cap) w := fun _ _ _ _ => rfl
        go_wp2_with fail
        have FR := S.out.fresh
        have S0 := Aside0.mk (S.out.below (below_alloc (Below.refl _ _) (Obj.cells #[Value.int .i64 0] 3)))
        go_loopg [13, 14] (a1.size + 1) (fun gg v13 v14 w' => ∃ (i : Nat) (o : ByteArray) (ba : Nat), v13 = .string o ∧ v14 = .pointer (some ⟨ba, 0, none⟩) ∧ o.size ≤ i ∧ i ≤ a1.size ∧ Aside0 (impl_bestReading.St w (some ⟨p0, q0, none⟩) c0_0 l0_0.length a1 bl g x w') ∧ Aside0 (w'.cell? ⟨ba, 0, none⟩ = some (.int .i64 (i : Int))) ∧ Aside0 (w'.frozen? ⟨ba, 0, none⟩ = false) ∧ Aside0 (w.heap.size ≤ ba ∧ ba ≠ w.heap.size ∧ ba ≠ w.heap.size + 1 ∧ ba ≠ bl ∧ ba ≠ g) ∧ Aside0 (impl_bestReading.go a1 l0_0 x gg i o = some R))
        case atStart => exact ⟨0, ⟨#[]⟩, _, rfl, rfl, Nat.le_refl _, Nat.zero_le _, S0, ⟨by simp⟩, ⟨by simp⟩, ⟨FR⟩, HR3⟩
        case round =>
          clear S0 FR HR3 S cv cx0
          obtain ⟨i, o, ba, rfl, rfl, ho, hi, S, CA, FA, FR, G⟩ := hrel
          cases gk with
          | zero => exact absurd G.out (by simp [impl_bestReading.go])
          | succ k =>
            have hG := G.out
            unfold impl_bestReading.go at hG
            have ca := CA.out
            have cs := S.out.cs
            have ct := S.out.ct
            by_cases hlt : i < a1.size
            · rw [if_pos hlt] at hG
              have hltz : (i : Int) < (a1.size : Int) := by omega
              by_cases hidx : 0 ≤ impl_bestReading.idx (impl_bestReading.hit a1 x i) l0_0 0
              · rw [if_pos hidx] at hG
                have hI := impl_bestReading.index (impl_bestReading.hit a1 x i) 47 #[.pointer (some ⟨w.heap.size + 1, 0, none⟩), .pointer (some ⟨ba, 0, none⟩), .pointer (some ⟨bl, 0, none⟩)] (enters_of Tryd.func47 (by kernel_rfl) rfl) p0 q0 c0_0 l0_0 wr hl1
                  (fun c hc q => impl_bestReading.closure a1 hs1 x S.out.len i hlt (w.heap.size + 1) ba bl g (wr.drewN q) S.out.cs CA.out S.out.cv S.out.cx c (by have := List.all_eq_true.1 HALL.out c hc; simp only [Bool.and_eq_true, decide_eq_true_eq] at this; exact this.2))
                  (fun j hj => pw_cell_below S.out.bel (HPQ.out j hj))
                obtain ⟨jn, hjn, hj1, hj2⟩ := impl_bestReading.idx_at _ _ _ hidx
                rw [Nat.zero_add] at hj1
                rw [hj1] at hI hG
                have hsz := List.all_eq_true.1 HALL.out _ (List.getElem_mem hjn)
                have hcell := pw_cell_below S.out.bel (HPQ.out jn hjn)
                rw [show l0_0.getD ((jn : Nat) : Int).toNat ByteArray.empty = l0_0[jn] from by rw [Int.toNat_natCast, List.getD_eq_getElem?_getD, List.getElem?_eq_getElem hjn]; rfl] at hG
                have hfit : impl_bestReading.fits a1 l0_0[jn] i = true := by
                  unfold impl_bestReading.hit at hj2
                  simp only [Bool.and_eq_true] at hj2
                  exact hj2.1.1
                have hle := impl_bestReading.fits_le _ _ _ hfit
                generalize l0_0[jn] = c at hsz hcell hG hle
                simp only [Bool.and_eq_true, decide_eq_true_eq] at hsz
                obtain ⟨hc0, hc1⟩ := hsz
                have HI := Aside0.mk hI
                have HG := Aside0.mk hG
                have j0 : (0 : Int) ≤ (jn : Int) := by omega
                have j1 : (jn : Int) < (l0_0.length : Int) := by omega
                clear hidx hj1 hj2 hfit hI hG G
                have hts := impl_bestReading.txt_size (jn : Int)
                have hsm : o.size + (impl_bestReading.txt (jn : Int)).size ≤ 9223372036854775807 := by rw [hts]; omega
                have e0 := eq_true hsm
                have e1 : decide (o.size + (impl_bestReading.txt (jn : Int)).size ≤ 9223372036854775807) = true := decide_eq_true hsm
                have e2 : (9223372036854775807 < o.size + (impl_bestReading.txt (jn : Int)).size) = False := eq_false (Nat.not_lt.2 hsm)
                obtain ⟨T, hT⟩ : ∃ T, T = impl_bestReading.txt (jn : Int) := ⟨_, rfl⟩
                have HT := Aside0.mk (show impl_letterText.f (jn : Int) = some T from by rw [hT]; rfl)
                rw [← hT] at hts hsm e0 e1 e2 HG
                clear hT hsm
                have hadd2 : IntKind.i64.wrap ((i : Int) + (c.size : Int)) = ((i + c.size : Nat) : Int) := by rw [IntKind.wrap_i64]; omega
                go_upto_region 23 with (first | (go_at_call 46; (refine HI.out.mono ?_); rintro e w' ⟨rfl, ⟨nd, rfl⟩⟩) | (go_at_call 48; (refine (impl_letterText.calls (jn : Int) T _ HT.out).mono ?_); rintro e w5 ⟨rfl, hb5⟩; have HB5 := Aside0.mk hb5; clear hb5))
                have S5 := Aside0.mk ((S.out.drewN nd).below HB5.out)
                have ca5 := pw_cell_below HB5.out (show (wr.drewN nd).cell? ⟨ba, 0, none⟩ = some (.int .i64 (i : Int)) from CA.out)
                have hba : ba < wr.heap.size := World.block_lt_of_cell? wr _ CA.out
                have fa5 : w5.frozen? ⟨ba, 0, none⟩ = false := (HB5.out.frozen (p := ⟨ba, 0, none⟩) hba).trans FA.out
                have hcell5 := pw_cell_below HB5.out (show (wr.drewN nd).cell? ⟨p0, q0 + jn, none⟩ = some (.string c) from hcell)
                have ct5 := S5.out.ct
                clear hcell ct cs ca HB5 S CA FA HI
                go_region
                go_wp2
                obtain ⟨fr0, fr1, fr2, fr3, fr4⟩ := FR.out
                have S6 := S5.out.far ba (Value.int .i64 ((i : Int) + (c.size : Int))) fr0 fr1 fr2 fr3 fr4
                have F6 := S6.fresh
                have hsz6 : (w5.setCell ⟨ba, 0, none⟩ (Value.int .i64 ((i : Int) + (c.size : Int)))).heap.size = w5.heap.size := by simp
                rw [hsz6] at F6
                go_roundg k
                case measure => omega
                case rel => exact ⟨i + c.size, o ++ T, w5.heap.size, rfl, rfl, by rw [ByteArray.size_append, hts]; omega, hle, ⟨(S6.below (below_alloc (Below.refl _ _) _)).drewN 1⟩, ⟨(impl_bestReading.new_cell _ _ _ _ hsz6).trans (by rw [Int.natCast_add])⟩, ⟨impl_bestReading.new_frozen _ _ _ _ hsz6⟩, ⟨F6⟩, HG⟩
              · rw [if_neg hidx] at hG
                exact absurd hG (by simp)
            · rw [if_neg hlt] at hG
              have hltz : ¬ ((i : Int) < (a1.size : Int)) := by omega
              obtain rfl := Option.some.inj hG
              go_wp2_with fail
              go_ret2
              exact ⟨rfl, S.out.bel⟩
    | succ i =>
      have ei : ((i + 1 : Nat) : Int) - 1 = (i : Int) := by omega
      rw [ei]
      clear ei
      have i0 : (0 : Int) ≤ (i : Int) := by omega
      have ct := S.out.ct
      go_wp2_with fail
      go_loopg [39] l0_0.length (fun gg v39 w' => ∃ (j : Nat) (x1 : List Int), v39 = .int .i64 (j : Int) ∧ j ≤ l0_0.length ∧ l0_0.length - j ≤ gg ∧ Aside0 (impl_bestReading.St w (some ⟨p0, q0, none⟩) c0_0 l0_0.length a1 bl g x1 w') ∧ Aside0 (impl_bestReading.inn a1 i (l0_0.drop j) x1 = impl_bestReading.inn a1 i l0_0 x))
      case atStart => exact ⟨0, x, rfl, Nat.zero_le _, Nat.le_refl _, S, ⟨by rw [List.drop_zero]⟩⟩
      case round =>
        clear ct S
        obtain ⟨j, x1, rfl, hj, hgg2, S, C2⟩ := hrel
        by_cases hlt : j < l0_0.length
        · have hltz : (j : Int) < (l0_0.length : Int) := by omega
          have j0 : (0 : Int) ≤ (j : Int) := by omega
          have hcell := pw_cell_below S.out.bel (HPQ.out j hlt)
          have hsz := List.all_eq_true.1 HALL.out _ (List.getElem_mem hlt)
          have C3 := Aside0.mk ((impl_bestReading.inn_drop a1 i l0_0 j hlt x1).symm.trans C2.out)
          clear C2
          generalize l0_0[j] = c at hcell hsz C3
          simp only [Bool.and_eq_true, decide_eq_true_eq] at hsz
          obtain ⟨hc0, hc1⟩ := hsz
          have hp := impl_bestReading.pre_ a1 c i hs1 hc1 (by omega)
          have ct := S.out.ct
          have cs := S.out.cs
          have cv := S.out.cv
          have i1 : (i : Int) ≤ (a1.size : Int) := by omega
          have i2 : (i : Int) < (a1.size : Int) + 1 := by omega
          by_cases hf : impl_bestReading.fits a1 c i = true
          · rw [hf] at hp
            have HP := Aside0.mk hp
            have hle := impl_bestReading.fits_le a1 c i hf
            have hxc := S.out.cx (i + c.size) (by omega)
            have hxi := S.out.cx i (by omega)
            have fz := S.out.fz i
            have hadd2 : IntKind.i64.wrap ((i : Int) + (c.size : Int)) = ((i + c.size : Nat) : Int) := by rw [IntKind.wrap_i64]; omega
            have k0 : (0 : Int) ≤ ((i + c.size : Nat) : Int) := by omega
            have k2 : ((i + c.size : Nat) : Int) < (a1.size : Int) + 1 := by omega
            have hup := C3.out
            unfold impl_bestReading.upd at hup
            rw [if_pos hf] at hup
            have HUP := Aside0.mk hup
            clear hp hf hle hup C3
            generalize x1.getD (i + c.size) 0 = p at hxc HUP
            generalize x1.getD i 0 = q at hxi HUP
            obtain ⟨n, hn⟩ : ∃ n, n = wrap64 (p + 1) := ⟨_, rfl⟩
            have hnw : IntKind.i64.wrap (p + 1) = n := by rw [hn]; exact i64_w _
            rw [← hn] at HUP
            clear hn
            by_cases hp0 : p < 0
            · have hd : decide (p < 0) = true := decide_eq_true hp0
              have C4 := Aside0.mk (show impl_bestReading.inn a1 i (l0_0.drop (j + 1)) x1 = impl_bestReading.inn a1 i l0_0 x from by have := HUP.out; rw [if_pos hp0] at this; exact this)
              clear HUP
              go_wp2_with (go_at_call 45; (refine (strings_HasPrefix.calls (a1.extract i a1.size) c true _ HP.out).mono ?_); rintro e w' ⟨rfl, ⟨nd, rfl⟩⟩)
              go_roundg (l0_0.length - (j + 1))
              case measure => omega
              case rel => exact ⟨j + 1, x1, by go_num, by omega, by omega, ⟨S.out.drewN nd⟩, C4⟩
            · have hd : decide (p < 0) = false := decide_eq_false hp0
              by_cases hq0 : q < 0
              · have hd2 : decide (q < 0) = true := decide_eq_true hq0
                have C4 := Aside0.mk (show impl_bestReading.inn a1 i (l0_0.drop (j + 1)) (x1.set i n) = impl_bestReading.inn a1 i l0_0 x from by have := HUP.out; rw [if_neg hp0, if_pos hq0] at this; exact this)
                clear HUP
                go_wp2_with (go_at_call 45; (refine (strings_HasPrefix.calls (a1.extract i a1.size) c true _ HP.out).mono ?_); rintro e w' ⟨rfl, ⟨nd, rfl⟩⟩)
                go_roundg (l0_0.length - (j + 1))
                case measure => omega
                case rel => exact ⟨j + 1, x1.set i n, by go_num, by omega, by omega, ⟨(S.out.drewN nd).set i (by omega) n⟩, C4⟩
              · have hd2 : decide (q < 0) = false := decide_eq_false hq0
                cases hb : impl_bestReading.better n q with
                | true =>
                  have HB := Aside0.mk (show impl_ShortestReading_1.f n q = some true from by rw [← hb]; rfl)
                  have C4 := Aside0.mk (show impl_bestReading.inn a1 i (l0_0.drop (j + 1)) (x1.set i n) = impl_bestReading.inn a1 i l0_0 x from by have := HUP.out; rw [if_neg hp0, if_neg hq0, hb, if_pos rfl] at this; exact this)
                  clear HUP hb
                  go_wp2_with (first | (go_at_call 45; (refine (strings_HasPrefix.calls (a1.extract i a1.size) c true _ HP.out).mono ?_); rintro e w' ⟨rfl, ⟨nd, rfl⟩⟩) | (go_at_call 34; (refine (impl_ShortestReading_1.calls n q true _ HB.out).mono ?_); rintro e w' ⟨rfl, ⟨nd2, rfl⟩⟩))
                  go_roundg (l0_0.length - (j + 1))
                  case measure => omega
                  case rel => exact ⟨j + 1, x1.set i n, by go_num, by omega, by omega, ⟨(S.out.drewN (nd + nd2)).set i (by omega) n⟩, C4⟩
                | false =>
                  have HB := Aside0.mk (show impl_ShortestReading_1.f n q = some false from by rw [← hb]; rfl)
                  have C4 := Aside0.mk (show impl_bestReading.inn a1 i (l0_0.drop (j + 1)) x1 = impl_bestReading.inn a1 i l0_0 x from by have := HUP.out; rw [if_neg hp0, if_neg hq0, hb, if_neg (by simp)] at this; exact this)
                  clear HUP hb
                  go_wp2_with (first | (go_at_call 45; (refine (strings_HasPrefix.calls (a1.extract i a1.size) c true _ HP.out).mono ?_); rintro e w' ⟨rfl, ⟨nd, rfl⟩⟩) | (go_at_call 34; (refine (impl_ShortestReading_1.calls n q false _ HB.out).mono ?_); rintro e w' ⟨rfl, ⟨nd2, rfl⟩⟩))
                  go_roundg (l0_0.length - (j + 1))
                  case measure => omega
                  case rel => exact ⟨j + 1, x1, by go_num, by omega, by omega, ⟨S.out.drewN (nd + nd2)⟩, C4⟩
          · have hf2 := (Bool.not_eq_true _).mp hf
            rw [hf2] at hp
            have HP := Aside0.mk hp
            have C4 := Aside0.mk (show impl_bestReading.inn a1 i (l0_0.drop (j + 1)) x1 = impl_bestReading.inn a1 i l0_0 x from by have := C3.out; unfold impl_bestReading.upd at this; rw [if_neg hf] at this; exact this)
            clear hp hf hf2 C3
            go_wp2_with (go_at_call 45; (refine (strings_HasPrefix.calls (a1.extract i a1.size) c false _ HP.out).mono ?_); rintro e w' ⟨rfl, ⟨nd, rfl⟩⟩)
            go_roundg (l0_0.length - (j + 1))
            case measure => omega
            case rel => exact ⟨j + 1, x1, by go_num, by omega, by omega, ⟨S.out.drewN nd⟩, C4⟩
        · have : j = l0_0.length := by omega
          subst this
          have hltz : ¬ ((l0_0.length : Int) < (l0_0.length : Int)) := by omega
          have hx : x1 = impl_bestReading.inn a1 i l0_0 x := by
            have := C2.out
            rw [List.drop_length] at this
            exact this
          have HX := Aside0.mk hx
          clear hx
          have hsub : IntKind.i64.wrap ((i : Int) - 1) = (i : Int) - 1 := by rw [IntKind.wrap_i64]; omega
          go_wp2_with fail
          go_roundg i
          case measure => omega
          case rel => exact ⟨i, x1, rfl, by omega, Nat.le_refl _, S, ⟨by rw [HX.out]; exact C.out⟩⟩
set_option maxHeartbeats 8000000 in
set_option maxRecDepth 100000 in
theorem impl_bestReading.calls (A0_0 : Option Addr) (c0_0 : Nat) (l0_0 : List ByteArray) (a1 : ByteArray) (r0 : ByteArray) (r1 : Bool) (w : World) (hr0_0 : Kd.C Kd.string w A0_0 l0_0.length l0_0) (hc0_0 : l0_0.length ≤ c0_0) (h : impl_bestReading.f l0_0 a1 = some (r0, r1)) :
    Calls Tryd.prog 32 #[.agg #[.slice A0_0 l0_0.length c0_0], .string a1, .func (.func 34) #[] #[]] w fun e w' => e = .returned (.tuple #[.string r0, .bool r1]) ∧ Below w.heap.size w w' := by
  unfold impl_bestReading.f at h
  obtain ⟨t, ht, h⟩ := Option.bind_eq_some_iff.1 h
  cases t with
  | true =>
    rw [if_pos rfl] at h
    by_cases hg : impl_bestReading.good l0_0 a1 = true
    · rw [if_pos hg] at h
      exact impl_bestReading.read A0_0 c0_0 l0_0 a1 r0 r1 w hr0_0 hc0_0 ht hg h
    · rw [if_neg hg] at h; cases h
  | false =>
    rw [if_neg (by simp)] at h
    obtain ⟨rfl, rfl⟩ := Prod.mk.inj (Option.some.inj h)
    have HR := Aside0.mk hr0_0
    have HRD := Aside0.mk ht
    clear hr0_0 ht h
    go_enter Tryd.func32, Tryd.ntmps32
    go_wp2_with (go_at_call 38; (refine (impl_isRead.calls 5000000 A0_0 c0_0 l0_0 a1 false _ (Kd.C_below HR.out (below_alloc (below_alloc (Below.refl _ _) _) _)) hc0_0 HRD.out).mono ?_); rintro e w1 ⟨rfl, hb1⟩; have HB1 := Aside0.mk hb1; clear hb1)
    go_ret2
    exact ⟨rfl, below_step (below_alloc (below_alloc (Below.refl _ _) _) _) HB1.out⟩

/-! ### impl_ShortestReading: function 21 -/
def impl_ShortestReading.f (l0_0 : List ByteArray) (a1 : ByteArray) : Option (ByteArray × Bool) := (impl_bestReading.f l0_0 a1).bind fun bt190 => (some (bt190.1, bt190.2))
set_option maxHeartbeats 8000000 in
set_option maxRecDepth 100000 in
theorem impl_ShortestReading.calls (A0_0 : Option Addr) (c0_0 : Nat) (l0_0 : List ByteArray) (a1 : ByteArray) (r1 : ByteArray) (r2 : Bool) (w : World) (hr0_0 : Kd.C Kd.string w A0_0 l0_0.length l0_0) (hc0_0 : l0_0.length ≤ c0_0) (h : impl_ShortestReading.f l0_0 a1 = some (r1, r2)) :
    Calls Tryd.prog 21 #[.agg #[.slice A0_0 l0_0.length c0_0], .string a1] w fun e w' => e = .returned (.tuple #[.string r1, .bool r2]) ∧ Below w.heap.size w w' := by
  have hu29 := Tryd.underlying29
  have HR0_0 := Aside0.mk hr0_0
  have HC0_0 := Aside0.mk hc0_0
  clear hr0_0 hc0_0
  have HB := Aside0.mk (Below.refl w.heap.size w)
  have H : ((impl_bestReading.f l0_0 a1).bind fun bt190 => (some (bt190.1, bt190.2))) = some (r1, r2) := h
  clear h
  replace H := Option.bind_eq_some_iff.mp H
  obtain ⟨⟨t190, t191⟩, A30, H⟩ := H
  replace H : (some (t190, t191)) = some (r1, r2) := H
  have A3 := Aside0.mk A30
  clear A30
  simp only [Option.some.injEq, Prod.mk.injEq] at H
  obtain ⟨rfl, rfl⟩ := H
  go_enter Tryd.func21, Tryd.ntmps21
  go_wp2_with (first | ((with_reducible refine gate_dst (N := 2) rfl ?_); refine box_event ?hg (N := 2) ?hd (cs := #[.slice A0_0 l0_0.length c0_0]) (t := 29) ?hr ?_; (case hd => rfl); (case hg => rfl); (case hr => first | (go_simp; done) | (go_simp; rfl)); intro gb189 hg w4 hbox hb; have n0_ := Aside0.mk (below_step (by repeat (first | (with_reducible first | exact HB.out | apply below_alloc | apply pw_below_drewN | apply below_drew1) | exact HB.out)) hb); have n1_ := Aside0.mk (hbox); have n2_ := Aside0.mk ((by rw [hg]; exact (below_size (by repeat (first | (with_reducible first | exact HB.out | apply below_alloc | apply pw_below_drewN | apply below_drew1) | exact HB.out))) : w.heap.size ≤ gb189)); have n3_ := Aside0.mk ((by rw [hg]; exact (below_size (by repeat (first | (with_reducible first | exact HB.out | apply below_alloc | apply pw_below_drewN | apply below_drew1) | exact HB.out))) : w.heap.size ≤ gb189)); clear HB; have HB := n0_; have BK189 := n1_; have GW189 := n2_; have GE189 := n3_; clear n0_ n1_ n2_ n3_; clear hb hbox hg; have hcz5_0 : w4.cell? ⟨gb189, 0, none⟩ = some (.slice A0_0 l0_0.length c0_0) := (blk_cell BK189.out 0).trans rfl; have hfz5_0 := blk_frozen BK189.out 0) | ((with_reducible refine gate_callee (f := 32) rfl ?_); refine goesL_ (some 8) rfl rfl Tryd.func32 (by kernel_rfl) rfl #[.agg #[.slice A0_0 l0_0.length c0_0], .string a1, .func (.func 34) #[] #[]] rfl (by (try simp only [List.map_toArray, List.map_cons, List.map_nil]); first | done | rfl | (simp only [List.length_drop, List.length_take]; rfl)) ?_; (with_reducible refine (impl_bestReading.calls _ _ l0_0 a1  t190 t191 _ ?side1 ?side2 A3.out).mono ?_); (case side1 => repeat (first | exact (Kd.C_below HR0_0.out HB.out) | (with_reducible refine Kd.C_alloc ?_ _) | (with_reducible refine Kd.C_drewN ?_ _) | (with_reducible refine Kd.C_drew ?_))); (case side2 => exact HC0_0.out); rintro e w6 ⟨rfl, hb⟩; refine ⟨_, rfl, ?_⟩; have n0_ := Aside0.mk (blk_below (g := gb189) (o := .cells #[.slice A0_0 l0_0.length c0_0] 29 (0, 0)) (by (with_reducible repeat (first | refine blk_drewN ?_ _ | refine blk_drew ?_ | refine blk_alloc ?_ _)); exact BK189.out) hb); have n1_ := Aside0.mk (below_step (by repeat (first | (with_reducible first | exact HB.out | apply below_alloc | apply pw_below_drewN | apply below_drew1 | refine below_set ?_ GE189.out) | exact HB.out)) hb); clear BK189; clear HB; have BK189 := n0_; have HB := n1_; clear n0_ n1_; (try clear hb); (try clear hb2); (try clear hk); (try clear hi)))
  go_ret2
  exact ⟨by first | rfl | (simp [errW_none, errW_some] <;> rfl) | (simp [*, errW_none, errW_some] <;> rfl), by repeat (first | (with_reducible first | exact HB.out | apply below_alloc | apply pw_below_drewN | apply below_drew1 | refine below_set ?_ GE189.out) | exact HB.out)⟩

end Go.Proofs.YtajmbipefekecaaDoor.HFnExactShortestReading
