/- What the machine does at each Go function that the law reaches is what the Lean function of its name says. -/
import Derived.Test.YtbdagfdhkobbcaaDoorHFnExactReadLinex0
import Derived.Test.YtbdagfdhkobbcaaDoorHFnExactReadLinex6
import Derived.Test.YtbdagfdhkobbcaaDoorHFnExactReadLinex7
import Derived.Test.YtbdagfdhkobbcaaDoorHFnExactReadLinex8
namespace Go.Proofs.YtbdagfdhkobbcaaDoor.HFnExactReadLine
open Go.RowKit Go.Proofs.YtbdagfdhkobbcaaDoorW.PrintWords Go.Proofs.YtbdagfdhkobbcaaDoorW.PrintLast Go.Proofs.YtbdagfdhkobbcaaDoorW.PrintMore
attribute [local go_sem] max2_int min2_int max_two min_two max_three min_three max_four min_four   -- for this text's walks alone
set_option linter.unusedVariables false
set_option linter.unusedSimpArgs false

/-! ### impl_signalOf: function 34 -/
mutual
def impl_signalOf.l0 : Nat → ByteArray → ByteArray → List (S36) → Int → Int → Option (ByteArray × Bool)
  | 0, _, _, _, _, _ => none
  | k + 1, x0, x4, x8, x9, x10 => if x10 < x9 then (if 0 ≤ x10 then (if x10 < (x8.length : Int) then (if ((rd_T36 x8 x10).f0) = 1 then (impl_signalOf.j1 k x0 x4 x10 x8 x9 x10 (((rd_T36 x8 x10).f1) == 1) ((rd_T36 x8 x10).f0) ((rd_T36 x8 x10).f1)) else (impl_signalOf.j1 k x0 x4 x10 x8 x9 x10 false ((rd_T36 x8 x10).f0) ((rd_T36 x8 x10).f1))) else (none)) else (none)) else ((impl_isSignal.f k x4).bind fun t303 => (if t303 = true then ((impl_lineOf.f k x4).bind fun t304 => (if t304.toList = x0.toList then (some (x4, true)) else (some ((⟨#[]⟩ : ByteArray), false)))) else (some ((⟨#[]⟩ : ByteArray), false))))
def impl_signalOf.j1 : Nat → ByteArray → ByteArray → Int → List (S36) → Int → Int → Bool → Int → Int → Option (ByteArray × Bool)
  | 0, _, _, _, _, _, _, _, _, _ => none
  | k + 1, x0, x4, x5, x8, x9, x10, x15, x303000, x303001 => if x15 = true then (if x4.size + 1 ≤ 9223372036854775807 then (impl_signalOf.l0 k x0 (x4 ++ (⟨#[46]⟩ : ByteArray)) x8 x9 (wrap64 (x10 + 1))) else (none)) else (if x303000 = 1 then (impl_signalOf.j2 k x0 x4 x5 x8 x9 x10 (x303001 == 3) x303000 x303001) else (impl_signalOf.j2 k x0 x4 x5 x8 x9 x10 false x303000 x303001))
def impl_signalOf.j2 : Nat → ByteArray → ByteArray → Int → List (S36) → Int → Int → Bool → Int → Int → Option (ByteArray × Bool)
  | 0, _, _, _, _, _, _, _, _, _ => none
  | k + 1, x0, x4, x5, x8, x9, x10, x26, x303000, x303001 => if x26 = true then (if x4.size + 1 ≤ 9223372036854775807 then (impl_signalOf.l0 k x0 (x4 ++ (⟨#[45]⟩ : ByteArray)) x8 x9 (wrap64 (x10 + 1))) else (none)) else (if x303000 = 0 then (if x303001 = 1 then (impl_signalOf.j3 k x0 x4 x8 x9 x10 (decide (x5 > 0)) x303000 x303001) else (impl_signalOf.j3 k x0 x4 x8 x9 x10 false x303000 x303001)) else (impl_signalOf.j3 k x0 x4 x8 x9 x10 false x303000 x303001))
def impl_signalOf.j3 : Nat → ByteArray → ByteArray → List (S36) → Int → Int → Bool → Int → Int → Option (ByteArray × Bool)
  | 0, _, _, _, _, _, _, _, _ => none
  | k + 1, x0, x4, x8, x9, x10, x37, x303000, x303001 => if x37 = true then (impl_signalOf.l0 k x0 x4 x8 x9 (wrap64 (x10 + 1))) else (if x303000 = 0 then (impl_signalOf.j4 k x0 x4 x8 x9 x10 (x303001 == 3) x303000 x303001) else (impl_signalOf.j4 k x0 x4 x8 x9 x10 false x303000 x303001))
def impl_signalOf.j4 : Nat → ByteArray → ByteArray → List (S36) → Int → Int → Bool → Int → Int → Option (ByteArray × Bool)
  | 0, _, _, _, _, _, _, _, _ => none
  | k + 1, x0, x4, x8, x9, x10, x50, x303000, x303001 => if x50 = true then (if x4.size + 1 ≤ 9223372036854775807 then (impl_signalOf.l0 k x0 (x4 ++ (⟨#[32]⟩ : ByteArray)) x8 x9 (wrap64 (x10 + 1))) else (none)) else (if x303000 = 0 then (if x303001 = 7 then (if x4.size + 1 ≤ 9223372036854775807 then (impl_signalOf.l0 k x0 (x4 ++ (⟨#[47]⟩ : ByteArray)) x8 x9 (wrap64 (x10 + 1))) else (none)) else (some ((⟨#[]⟩ : ByteArray), false))) else (some ((⟨#[]⟩ : ByteArray), false)))
end
def impl_signalOf.f (k : Nat) (a0 : ByteArray) : Option (ByteArray × Bool) := (impl_runsOf.f k a0).bind fun t298 => (impl_signalOf.l0 k a0 (⟨#[]⟩ : ByteArray) t298 (t298.length : Int) 0)
theorem impl_signalOf.mono_l : ∀ k, (∀ y0 y1 y2 y3 y4, LeO (impl_signalOf.l0 k y0 y1 y2 y3 y4) (impl_signalOf.l0 (k + 1) y0 y1 y2 y3 y4)) ∧ (∀ y0 y1 y2 y3 y4 y5 y6 y7 y8, LeO (impl_signalOf.j1 k y0 y1 y2 y3 y4 y5 y6 y7 y8) (impl_signalOf.j1 (k + 1) y0 y1 y2 y3 y4 y5 y6 y7 y8)) ∧ (∀ y0 y1 y2 y3 y4 y5 y6 y7 y8, LeO (impl_signalOf.j2 k y0 y1 y2 y3 y4 y5 y6 y7 y8) (impl_signalOf.j2 (k + 1) y0 y1 y2 y3 y4 y5 y6 y7 y8)) ∧ (∀ y0 y1 y2 y3 y4 y5 y6 y7, LeO (impl_signalOf.j3 k y0 y1 y2 y3 y4 y5 y6 y7) (impl_signalOf.j3 (k + 1) y0 y1 y2 y3 y4 y5 y6 y7)) ∧ (∀ y0 y1 y2 y3 y4 y5 y6 y7, LeO (impl_signalOf.j4 k y0 y1 y2 y3 y4 y5 y6 y7) (impl_signalOf.j4 (k + 1) y0 y1 y2 y3 y4 y5 y6 y7))
  | 0 => ⟨fun _ _ _ _ _ r h => by simp [impl_signalOf.l0] at h, fun _ _ _ _ _ _ _ _ _ r h => by simp [impl_signalOf.j1] at h, fun _ _ _ _ _ _ _ _ _ r h => by simp [impl_signalOf.j2] at h, fun _ _ _ _ _ _ _ _ r h => by simp [impl_signalOf.j3] at h, fun _ _ _ _ _ _ _ _ r h => by simp [impl_signalOf.j4] at h⟩
  | k + 1 => by
    obtain ⟨ih0, ih1, ih2, ih3, ih4⟩ := impl_signalOf.mono_l k
    refine ⟨?_, ?_, ?_, ?_, ?_⟩
    · intro y0 y1 y2 y3 y4
      unfold impl_signalOf.l0
      repeat' first
      | (with_reducible exact ih0 _ _ _ _ _)
      | (with_reducible exact ih1 _ _ _ _ _ _ _ _ _)
      | (with_reducible exact ih2 _ _ _ _ _ _ _ _ _)
      | (with_reducible exact ih3 _ _ _ _ _ _ _ _)
      | (with_reducible exact ih4 _ _ _ _ _ _ _ _)
      | (with_reducible exact impl_isSignal.mono _ _)
      | (with_reducible exact impl_lineOf.mono _ _)
      | (with_reducible exact impl_runsOf.mono _ _)
      | (with_reducible exact LeO.refl _)
      | (with_reducible exact LeO.none _)
      | (with_reducible refine LeO.ite ?_ ?_)
      | (with_reducible refine LeO.bind ?_ (fun _ => ?_))
      | exact ih0 _ _ _ _ _
      | exact ih1 _ _ _ _ _ _ _ _ _
      | exact ih2 _ _ _ _ _ _ _ _ _
      | exact ih3 _ _ _ _ _ _ _ _
      | exact ih4 _ _ _ _ _ _ _ _
      | exact impl_isSignal.mono _ _
      | exact impl_lineOf.mono _ _
      | exact impl_runsOf.mono _ _
      | exact LeO.none _
      | refine LeO.ite ?_ ?_
      | refine LeO.bind ?_ (fun _ => ?_)
    · intro y0 y1 y2 y3 y4 y5 y6 y7 y8
      unfold impl_signalOf.j1
      repeat' first
      | (with_reducible exact ih0 _ _ _ _ _)
      | (with_reducible exact ih1 _ _ _ _ _ _ _ _ _)
      | (with_reducible exact ih2 _ _ _ _ _ _ _ _ _)
      | (with_reducible exact ih3 _ _ _ _ _ _ _ _)
      | (with_reducible exact ih4 _ _ _ _ _ _ _ _)
      | (with_reducible exact impl_isSignal.mono _ _)
      | (with_reducible exact impl_lineOf.mono _ _)
      | (with_reducible exact impl_runsOf.mono _ _)
      | (with_reducible exact LeO.refl _)
      | (with_reducible exact LeO.none _)
      | (with_reducible refine LeO.ite ?_ ?_)
      | (with_reducible refine LeO.bind ?_ (fun _ => ?_))
      | exact ih0 _ _ _ _ _
      | exact ih1 _ _ _ _ _ _ _ _ _
      | exact ih2 _ _ _ _ _ _ _ _ _
      | exact ih3 _ _ _ _ _ _ _ _
      | exact ih4 _ _ _ _ _ _ _ _
      | exact impl_isSignal.mono _ _
      | exact impl_lineOf.mono _ _
      | exact impl_runsOf.mono _ _
      | exact LeO.none _
      | refine LeO.ite ?_ ?_
      | refine LeO.bind ?_ (fun _ => ?_)
    · intro y0 y1 y2 y3 y4 y5 y6 y7 y8
      unfold impl_signalOf.j2
      repeat' first
      | (with_reducible exact ih0 _ _ _ _ _)
      | (with_reducible exact ih1 _ _ _ _ _ _ _ _ _)
      | (with_reducible exact ih2 _ _ _ _ _ _ _ _ _)
      | (with_reducible exact ih3 _ _ _ _ _ _ _ _)
      | (with_reducible exact ih4 _ _ _ _ _ _ _ _)
      | (with_reducible exact impl_isSignal.mono _ _)
      | (with_reducible exact impl_lineOf.mono _ _)
      | (with_reducible exact impl_runsOf.mono _ _)
      | (with_reducible exact LeO.refl _)
      | (with_reducible exact LeO.none _)
      | (with_reducible refine LeO.ite ?_ ?_)
      | (with_reducible refine LeO.bind ?_ (fun _ => ?_))
      | exact ih0 _ _ _ _ _
      | exact ih1 _ _ _ _ _ _ _ _ _
      | exact ih2 _ _ _ _ _ _ _ _ _
      | exact ih3 _ _ _ _ _ _ _ _
      | exact ih4 _ _ _ _ _ _ _ _
      | exact impl_isSignal.mono _ _
      | exact impl_lineOf.mono _ _
      | exact impl_runsOf.mono _ _
      | exact LeO.none _
      | refine LeO.ite ?_ ?_
      | refine LeO.bind ?_ (fun _ => ?_)
    · intro y0 y1 y2 y3 y4 y5 y6 y7
      unfold impl_signalOf.j3
      repeat' first
      | (with_reducible exact ih0 _ _ _ _ _)
      | (with_reducible exact ih1 _ _ _ _ _ _ _ _ _)
      | (with_reducible exact ih2 _ _ _ _ _ _ _ _ _)
      | (with_reducible exact ih3 _ _ _ _ _ _ _ _)
      | (with_reducible exact ih4 _ _ _ _ _ _ _ _)
      | (with_reducible exact impl_isSignal.mono _ _)
      | (with_reducible exact impl_lineOf.mono _ _)
      | (with_reducible exact impl_runsOf.mono _ _)
      | (with_reducible exact LeO.refl _)
      | (with_reducible exact LeO.none _)
      | (with_reducible refine LeO.ite ?_ ?_)
      | (with_reducible refine LeO.bind ?_ (fun _ => ?_))
      | exact ih0 _ _ _ _ _
      | exact ih1 _ _ _ _ _ _ _ _ _
      | exact ih2 _ _ _ _ _ _ _ _ _
      | exact ih3 _ _ _ _ _ _ _ _
      | exact ih4 _ _ _ _ _ _ _ _
      | exact impl_isSignal.mono _ _
      | exact impl_lineOf.mono _ _
      | exact impl_runsOf.mono _ _
      | exact LeO.none _
      | refine LeO.ite ?_ ?_
      | refine LeO.bind ?_ (fun _ => ?_)
    · intro y0 y1 y2 y3 y4 y5 y6 y7
      unfold impl_signalOf.j4
      repeat' first
      | (with_reducible exact ih0 _ _ _ _ _)
      | (with_reducible exact ih1 _ _ _ _ _ _ _ _ _)
      | (with_reducible exact ih2 _ _ _ _ _ _ _ _ _)
      | (with_reducible exact ih3 _ _ _ _ _ _ _ _)
      | (with_reducible exact ih4 _ _ _ _ _ _ _ _)
      | (with_reducible exact impl_isSignal.mono _ _)
      | (with_reducible exact impl_lineOf.mono _ _)
      | (with_reducible exact impl_runsOf.mono _ _)
      | (with_reducible exact LeO.refl _)
      | (with_reducible exact LeO.none _)
      | (with_reducible refine LeO.ite ?_ ?_)
      | (with_reducible refine LeO.bind ?_ (fun _ => ?_))
      | exact ih0 _ _ _ _ _
      | exact ih1 _ _ _ _ _ _ _ _ _
      | exact ih2 _ _ _ _ _ _ _ _ _
      | exact ih3 _ _ _ _ _ _ _ _
      | exact ih4 _ _ _ _ _ _ _ _
      | exact impl_isSignal.mono _ _
      | exact impl_lineOf.mono _ _
      | exact impl_runsOf.mono _ _
      | exact LeO.none _
      | refine LeO.ite ?_ ?_
      | refine LeO.bind ?_ (fun _ => ?_)
theorem impl_signalOf.mono : ∀ a0 k, LeO (impl_signalOf.f k a0) (impl_signalOf.f (k + 1) a0) := by
  intro a0 k
  obtain ⟨ih0, ih1, ih2, ih3, ih4⟩ := impl_signalOf.mono_l k
  unfold impl_signalOf.f
  repeat' first
      | (with_reducible exact ih0 _ _ _ _ _)
      | (with_reducible exact ih1 _ _ _ _ _ _ _ _ _)
      | (with_reducible exact ih2 _ _ _ _ _ _ _ _ _)
      | (with_reducible exact ih3 _ _ _ _ _ _ _ _)
      | (with_reducible exact ih4 _ _ _ _ _ _ _ _)
      | (with_reducible exact impl_isSignal.mono _ _)
      | (with_reducible exact impl_lineOf.mono _ _)
      | (with_reducible exact impl_runsOf.mono _ _)
      | (with_reducible exact LeO.refl _)
      | (with_reducible exact LeO.none _)
      | (with_reducible refine LeO.ite ?_ ?_)
      | (with_reducible refine LeO.bind ?_ (fun _ => ?_))
      | exact ih0 _ _ _ _ _
      | exact ih1 _ _ _ _ _ _ _ _ _
      | exact ih2 _ _ _ _ _ _ _ _ _
      | exact ih3 _ _ _ _ _ _ _ _
      | exact ih4 _ _ _ _ _ _ _ _
      | exact impl_isSignal.mono _ _
      | exact impl_lineOf.mono _ _
      | exact impl_runsOf.mono _ _
      | exact LeO.none _
      | refine LeO.ite ?_ ?_
      | refine LeO.bind ?_ (fun _ => ?_)
set_option maxHeartbeats 8000000 in
set_option maxRecDepth 100000 in
theorem impl_signalOf.calls (k : Nat) (a0 : ByteArray) (r1 : ByteArray) (r2 : Bool) (w : World) (h : impl_signalOf.f k a0 = some (r1, r2)) :
    Calls Tryd.prog 34 #[.string a0] w fun e w' => e = .returned (.tuple #[.string r1, .bool r2]) ∧ Below w.heap.size w w' := by
  have hu36 := Tryd.underlying36
  have HB := Aside0.mk (Below.refl w.heap.size w)
  have H : ((impl_runsOf.f k a0).bind fun t298 => (impl_signalOf.l0 k a0 (⟨#[]⟩ : ByteArray) t298 (t298.length : Int) 0)) = some (r1, r2) := h
  clear h
  replace H := Option.bind_eq_some_iff.mp H
  obtain ⟨t298, A20, H⟩ := H
  replace H : (impl_signalOf.l0 k a0 (⟨#[]⟩ : ByteArray) t298 (t298.length : Int) 0) = some (r1, r2) := H
  have A2 := Aside0.mk A20
  clear A20
  have H' := Aside0.mk H
  clear H
  go_enter Tryd.func34, Tryd.ntmps34
  go_wp2_with (first | ((with_reducible refine gate_callee (f := 56) rfl ?_); refine goesL_ (some 8) rfl rfl Tryd.func56 (by kernel_rfl) rfl #[.string a0] rfl (by (try simp only [List.map_toArray, List.map_cons, List.map_nil]); first | done | rfl | (simp only [List.length_drop, List.length_take]; rfl)) ?_; (with_reducible refine (impl_runsOf.calls k a0 t298 _ A2.out).mono ?_); rintro e w3 ⟨v299, rfl, ho0, hb⟩; refine ⟨_, rfl, ?_⟩; have n0_ := Aside0.mk (Kd.R_lower ho0 (below_size (by repeat (first | (with_reducible first | exact HB.out | apply below_alloc | apply pw_below_drewN | apply below_drew1) | exact HB.out)))); have n1_ := Aside0.mk (below_step (by repeat (first | (with_reducible first | exact HB.out | apply below_alloc | apply pw_below_drewN | apply below_drew1) | exact HB.out)) hb); clear HB; have HO300 := n0_; have HB := n1_; clear n0_ n1_; (try clear hb); (try clear hb2); (try clear hk); (try clear hi); (try clear ho0); obtain ⟨Ao4, co4, eo4⟩ := Kd.R_slice HO300.out; subst eo4))
  go_loopg [4, 10] k (fun kq v4 v10 w' => ∃ (x4_1 : ByteArray) (x10_1 : Int), v4 = .string x4_1 ∧ v10 = .int .i64 x10_1 ∧ Aside0 (impl_signalOf.l0 kq a0 x4_1 t298 (t298.length : Int) x10_1 = some (r1, r2)) ∧ Aside0 (kq ≤ k) ∧ Aside0 (Kd.R k36 36 w' w.heap.size (fun _ => True) (.slice Ao4 t298.length co4) t298) ∧ Aside0 (Below w.heap.size w w'))
  case atStart => exact ⟨((⟨#[]⟩ : ByteArray)), (0), (by first | rfl | (simp; done) | (simp [*]; done)), (by first | rfl | (simp; done) | (simp [*]; done)), H', ⟨Nat.le_refl _⟩, ⟨by (with_reducible repeat (first | apply Kd.R_alloc | apply Kd.R_drewN | apply Kd.R_drew)); exact HO300.out⟩, ⟨by repeat (first | (with_reducible first | exact HB.out | apply below_alloc | apply pw_below_drewN | apply below_drew1) | exact HB.out)⟩⟩
  case round =>
    clear H'
    try clear p2
    try clear c3
    obtain ⟨x4_1, x10_1, rfl, rfl, HA, HK1, HO_8, HB⟩ := hrel
    cases gk with
    | zero => exact absurd HA.out (by simp [impl_signalOf.l0])
    | succ k1 =>
      have H := HA.out
      clear HA
      simp only [impl_signalOf.l0] at H
      by_cases c5 : x10_1 < (t298.length : Int)
      · rw [if_pos c5] at H
        have c5b0 : decide (x10_1 < (t298.length : Int)) = true := decide_eq_true c5
        clear c5
        by_cases c6 : 0 ≤ x10_1
        · rw [if_pos c6] at H
          have c6b0 : decide (0 ≤ x10_1) = true := decide_eq_true c6
          clear c6
          by_cases c7 : x10_1 < (t298.length : Int)
          · rw [if_pos c7] at H
            have c7b0 : decide (x10_1 < (t298.length : Int)) = true := decide_eq_true c7
            clear c7
            have HC8 := Aside0.mk H
            clear H
            have p301 : 0 ≤ (x10_1 : Int) := of_decide_eq_true (by first | (with_reducible assumption) | assumption)
            have q301 : x10_1 < (t298.length : Int) := of_decide_eq_true (by first | (with_reducible assumption) | assumption)
            obtain ⟨ad301, e301, hx301_0, hx301_1⟩ := at_T36 (Kd.R_reads' HO_8.out).2.2 x10_1 p301 q301
            cases e301
            replace p301 := eq_true p301
            replace q301 := eq_true q301
            go_upto_region 6 with (first | ((with_reducible refine gate_dst (N := 6) rfl ?_); refine box_event ?hg (N := 6) ?hd (cs := #[.int .i64 0, .int .i64 0]) (t := 36) ?hr ?_; (case hd => rfl); (case hg => rfl); (case hr => first | (go_simp; done) | (go_simp; rfl)); intro gb302 hg w9 hbox hb; have n0_ := Aside0.mk (Kd.R_below (Kd.R_elderB (by (with_reducible repeat (first | apply Kd.R_alloc | apply Kd.R_drewN | apply Kd.R_drew)); exact HO_8.out) gb302 (Nat.le_of_eq hg.symm)) hb); have n1_ := Aside0.mk (below_step (by repeat (first | (with_reducible first | exact HB.out | apply below_alloc | apply pw_below_drewN | apply below_drew1) | exact HB.out)) hb); have n2_ := Aside0.mk (hbox); have n3_ := Aside0.mk ((by rw [hg]; exact (below_size (by repeat (first | (with_reducible first | exact HB.out | apply below_alloc | apply pw_below_drewN | apply below_drew1) | exact HB.out))) : w.heap.size ≤ gb302)); have n4_ := Aside0.mk ((by rw [hg]; exact (below_size (by repeat (first | (with_reducible first | exact HB.out | apply below_alloc | apply pw_below_drewN | apply below_drew1) | exact HB.out))) : w.heap.size ≤ gb302)); clear HO_8; clear HB; have HO_8 := n0_; have HB := n1_; have BK302 := n2_; have GW302 := n3_; have GE302 := n4_; clear n0_ n1_ n2_ n3_ n4_; clear hb hbox hg; have hcz10_0 : w9.cell? ⟨gb302, 0, none⟩ = some (.int .i64 0) := (blk_cell BK302.out 0).trans rfl; have hcz10_1 : w9.cell? ⟨gb302, 1, none⟩ = some (.int .i64 0) := (blk_cell BK302.out 1).trans rfl; have hfz10_0 := blk_frozen BK302.out 0; have hfz10_1 := blk_frozen BK302.out 1))
            (try simp only [Act.put, List.setIfInBounds_toArray, List.set_cons_zero, List.set_cons_succ])
            go_cut [15] (fun v15 wc => ∃ (kq : Nat) (x15_7 : Bool), v15 = .bool x15_7 ∧ Aside0 (impl_signalOf.j1 kq a0 x4_1 x10_1 t298 (t298.length : Int) x10_1 x15_7 ((rd_T36 t298 x10_1).f0) ((rd_T36 t298 x10_1).f1) = some (r1, r2)) ∧ Aside0 (kq ≤ k1) ∧ Aside0 (Kd.R k36 36 wc w.heap.size (fun k_ => k_ ≠ gb302) (.slice (some ad301) t298.length co4) t298) ∧ Aside0 (wc.heap[gb302]? = some (.cells #[.int .i64 ((rd_T36 t298 x10_1).f0), .int .i64 ((rd_T36 t298 x10_1).f1)] 36 (0, 0))) ∧ Aside0 (Below w.heap.size w wc))
            case first =>
              have H := HC8.out
              clear HC8
              by_cases c11 : ((rd_T36 t298 x10_1).f0) = 1
              · rw [if_pos c11] at H
                have c11b0 : (((rd_T36 t298 x10_1).f0) == 1) = true := beq_iff_eq.mpr c11
                have c11b1 : (((rd_T36 t298 x10_1).f0) != 1) = false := bne_eq_false_iff_eq.mpr c11
                clear c11
                (first | rw [c11b0] | (simp only [i64_w, i32_w]; rw [c11b0]) | skip)
                have H' := Aside0.mk H
                clear H
                have hcz12_0 : w9.cell? ⟨gb302, 0, none⟩ = some (.int .i64 0) := (blk_cell BK302.out 0).trans rfl
                have hcz12_1 : w9.cell? ⟨gb302, 1, none⟩ = some (.int .i64 0) := (blk_cell BK302.out 1).trans rfl
                have hfz12_0 := blk_frozen BK302.out 0
                have hfz12_1 := blk_frozen BK302.out 1
                go_wp2
                go_meet
                case rel => exact ⟨_, ((((rd_T36 t298 x10_1).f1) == 1)), (by first | rfl | (simp; done) | (simp [*]; done)), H', ⟨by have := HK1.out; first | omega | exact Nat.le_refl _⟩, ⟨by (with_reducible repeat (first | apply Kd.R_alloc | apply Kd.R_drewN | apply Kd.R_drew)); exact Kd.R_mono (Kd.R_far (p := ⟨gb302, 1, none⟩) (Kd.R_far (p := ⟨gb302, 0, none⟩) (Kd.R_mono HO_8.out (fun k_ hk => (⟨hk, hk.2⟩ : _ ∧ k_ ≠ gb302))) (fun _ hk => hk.2) (.int .i64 ((rd_T36 t298 x10_1).f0))) (fun _ hk => hk.2) (.int .i64 ((rd_T36 t298 x10_1).f1))) (fun _ hk => hk.1.2)⟩, ⟨by (with_reducible repeat (first | refine blk_drewN ?_ _ | refine blk_drew ?_ | refine blk_alloc ?_ _)); refine blk_put (cs := #[.int .i64 ((rd_T36 t298 x10_1).f0), .int .i64 0]) ?_ 1 _ rfl; (with_reducible repeat (first | refine blk_drewN ?_ _ | refine blk_drew ?_ | refine blk_alloc ?_ _)); refine blk_put (cs := #[.int .i64 0, .int .i64 0]) ?_ 0 _ rfl; (with_reducible repeat (first | refine blk_drewN ?_ _ | refine blk_drew ?_ | refine blk_alloc ?_ _)); exact BK302.out⟩, ⟨by repeat (first | (with_reducible first | exact HB.out | apply below_alloc | apply pw_below_drewN | apply below_drew1 | refine below_set ?_ GE302.out) | exact HB.out)⟩⟩
              · rw [if_neg c11] at H
                have c11b0 : (((rd_T36 t298 x10_1).f0) == 1) = false := beq_eq_false_iff_ne.mpr c11
                have c11b1 : (((rd_T36 t298 x10_1).f0) != 1) = true := bne_iff_ne.mpr c11
                (first | rw [c11b0] | (simp only [i64_w, i32_w]; rw [c11b0]) | skip)
                have H' := Aside0.mk H
                clear H
                have hcz13_0 : w9.cell? ⟨gb302, 0, none⟩ = some (.int .i64 0) := (blk_cell BK302.out 0).trans rfl
                have hcz13_1 : w9.cell? ⟨gb302, 1, none⟩ = some (.int .i64 0) := (blk_cell BK302.out 1).trans rfl
                have hfz13_0 := blk_frozen BK302.out 0
                have hfz13_1 := blk_frozen BK302.out 1
                go_wp2
                go_meet
                case rel => exact ⟨_, (false), (by first | rfl | (simp; done) | (simp [*]; done)), H', ⟨by have := HK1.out; first | omega | exact Nat.le_refl _⟩, ⟨by (with_reducible repeat (first | apply Kd.R_alloc | apply Kd.R_drewN | apply Kd.R_drew)); exact Kd.R_mono (Kd.R_far (p := ⟨gb302, 1, none⟩) (Kd.R_far (p := ⟨gb302, 0, none⟩) (Kd.R_mono HO_8.out (fun k_ hk => (⟨hk, hk.2⟩ : _ ∧ k_ ≠ gb302))) (fun _ hk => hk.2) (.int .i64 ((rd_T36 t298 x10_1).f0))) (fun _ hk => hk.2) (.int .i64 ((rd_T36 t298 x10_1).f1))) (fun _ hk => hk.1.2)⟩, ⟨by (with_reducible repeat (first | refine blk_drewN ?_ _ | refine blk_drew ?_ | refine blk_alloc ?_ _)); refine blk_put (cs := #[.int .i64 ((rd_T36 t298 x10_1).f0), .int .i64 0]) ?_ 1 _ rfl; (with_reducible repeat (first | refine blk_drewN ?_ _ | refine blk_drew ?_ | refine blk_alloc ?_ _)); refine blk_put (cs := #[.int .i64 0, .int .i64 0]) ?_ 0 _ rfl; (with_reducible repeat (first | refine blk_drewN ?_ _ | refine blk_drew ?_ | refine blk_alloc ?_ _)); exact BK302.out⟩, ⟨by repeat (first | (with_reducible first | exact HB.out | apply below_alloc | apply pw_below_drewN | apply below_drew1 | refine below_set ?_ GE302.out) | exact HB.out)⟩⟩
            case rest =>
              clear HC8
              try clear c1
              try clear p2
              try clear c3
              try clear p3
              try clear q3
              try clear hx3
              try clear c5
              try clear c5b0
              try clear c6
              try clear c6b0
              try clear c7
              try clear c7b0
              try clear c11
              try clear c11b0
              try clear c11b1
              try clear hcz10_0
              try clear hcz10_1
              try clear hcz12_0
              try clear hcz12_1
              try clear hcz13_0
              try clear hcz13_1
              try clear hfz10_0
              try clear hfz10_1
              try clear hfz12_0
              try clear hfz12_1
              try clear hfz13_0
              try clear hfz13_1
              try clear hx301_0
              try clear hx301_1
              try clear p2
              try clear p301
              try clear q301
              obtain ⟨kq, x15_7, rfl, HA, HJ7, HO_8, BK302, HB⟩ := hcut
              cases kq with
              | zero => exact absurd HA.out (by simp [impl_signalOf.j1])
              | succ kj7 =>
                have H := HA.out
                clear HA
                simp only [impl_signalOf.j1] at H
                by_cases c14 : x15_7 = true
                · subst c14
                  have H1 : (if x4_1.size + 1 ≤ 9223372036854775807 then (impl_signalOf.l0 kj7 a0 (x4_1 ++ (⟨#[46]⟩ : ByteArray)) t298 (t298.length : Int) (wrap64 (x10_1 + 1))) else (none)) = some (r1, r2) := by rw [if_pos rfl] at H; exact H
                  clear H
                  have H := H1
                  clear H1
                  by_cases c15 : x4_1.size + 1 ≤ 9223372036854775807
                  · rw [if_pos c15] at H
                    have c15b0 := eq_true c15
                    have c15b1 : decide (x4_1.size + 1 ≤ 9223372036854775807) = true := decide_eq_true c15
                    try have c15b2 : (9223372036854775807 < x4_1.size + 1) = False := eq_false (Nat.not_lt.2 c15)
                    have H' := Aside0.mk H
                    clear H
                    go_wp2
                    go_roundg kj7
                    case measure => have := HK1.out; have := HJ7.out; omega
                    case rel => exact ⟨(x4_1 ++ (⟨#[46]⟩ : ByteArray)), (wrap64 (x10_1 + 1)), (by first | rfl | (simp; done) | (simp [*]; done)), (by first | rfl | (simp; done) | (simp [*]; done)), H', ⟨by have := HK1.out; have := HJ7.out; omega⟩, ⟨by (with_reducible repeat (first | apply Kd.R_alloc | apply Kd.R_drewN | apply Kd.R_drew)); exact Kd.R_mono HO_8.out (fun _ hk => trivial)⟩, ⟨by repeat (first | (with_reducible first | exact HB.out | apply below_alloc | apply pw_below_drewN | apply below_drew1 | refine below_set ?_ GE302.out) | exact HB.out)⟩⟩
                  · rw [if_neg c15] at H
                    exact absurd H (by simp)
                · replace c14 := Bool.eq_false_iff.mpr c14
                  subst c14
                  have H1 : (if ((rd_T36 t298 x10_1).f0) = 1 then (impl_signalOf.j2 kj7 a0 x4_1 x10_1 t298 (t298.length : Int) x10_1 (((rd_T36 t298 x10_1).f1) == 3) ((rd_T36 t298 x10_1).f0) ((rd_T36 t298 x10_1).f1)) else (impl_signalOf.j2 kj7 a0 x4_1 x10_1 t298 (t298.length : Int) x10_1 false ((rd_T36 t298 x10_1).f0) ((rd_T36 t298 x10_1).f1))) = some (r1, r2) := by rw [if_neg (show ¬ (false = true) by decide)] at H; exact H
                  clear H
                  have H := H1
                  clear H1
                  have HC16 := Aside0.mk H
                  clear H
                  go_upto_region 8 with (fail)
                  go_cut [26] (fun v26 wc => ∃ (kq : Nat) (x26_15 : Bool), v26 = .bool x26_15 ∧ Aside0 (impl_signalOf.j2 kq a0 x4_1 x10_1 t298 (t298.length : Int) x10_1 x26_15 ((rd_T36 t298 x10_1).f0) ((rd_T36 t298 x10_1).f1) = some (r1, r2)) ∧ Aside0 (kq ≤ kj7) ∧ Aside0 (Kd.R k36 36 wc w.heap.size (fun k_ => k_ ≠ gb302) (.slice (some ad301) t298.length co4) t298) ∧ Aside0 (wc.heap[gb302]? = some (.cells #[.int .i64 ((rd_T36 t298 x10_1).f0), .int .i64 ((rd_T36 t298 x10_1).f1)] 36 (0, 0))) ∧ Aside0 (Below w.heap.size w wc))
                  case first =>
                    have H := HC16.out
                    clear HC16
                    by_cases c17 : ((rd_T36 t298 x10_1).f0) = 1
                    · rw [if_pos c17] at H
                      have c17b0 : (((rd_T36 t298 x10_1).f0) == 1) = true := beq_iff_eq.mpr c17
                      have c17b1 : (((rd_T36 t298 x10_1).f0) != 1) = false := bne_eq_false_iff_eq.mpr c17
                      clear c17
                      (first | rw [c17b0] | (simp only [i64_w, i32_w]; rw [c17b0]) | skip)
                      have H' := Aside0.mk H
                      clear H
                      have hcz18_0 : wc.cell? ⟨gb302, 0, none⟩ = some (.int .i64 ((rd_T36 t298 x10_1).f0)) := (blk_cell BK302.out 0).trans rfl
                      have hcz18_1 : wc.cell? ⟨gb302, 1, none⟩ = some (.int .i64 ((rd_T36 t298 x10_1).f1)) := (blk_cell BK302.out 1).trans rfl
                      have hfz18_0 := blk_frozen BK302.out 0
                      have hfz18_1 := blk_frozen BK302.out 1
                      go_wp2
                      go_meet
                      case rel => exact ⟨_, ((((rd_T36 t298 x10_1).f1) == 3)), (by first | rfl | (simp; done) | (simp [*]; done)), H', ⟨by have := HK1.out; have := HJ7.out; first | omega | exact Nat.le_refl _⟩, ⟨by (with_reducible repeat (first | apply Kd.R_alloc | apply Kd.R_drewN | apply Kd.R_drew)); exact HO_8.out⟩, ⟨by (with_reducible repeat (first | refine blk_drewN ?_ _ | refine blk_drew ?_ | refine blk_alloc ?_ _)); exact BK302.out⟩, ⟨by repeat (first | (with_reducible first | exact HB.out | apply below_alloc | apply pw_below_drewN | apply below_drew1 | refine below_set ?_ GE302.out) | exact HB.out)⟩⟩
                    · rw [if_neg c17] at H
                      have c17b0 : (((rd_T36 t298 x10_1).f0) == 1) = false := beq_eq_false_iff_ne.mpr c17
                      have c17b1 : (((rd_T36 t298 x10_1).f0) != 1) = true := bne_iff_ne.mpr c17
                      (first | rw [c17b0] | (simp only [i64_w, i32_w]; rw [c17b0]) | skip)
                      have H' := Aside0.mk H
                      clear H
                      have hcz19_0 : wc.cell? ⟨gb302, 0, none⟩ = some (.int .i64 ((rd_T36 t298 x10_1).f0)) := (blk_cell BK302.out 0).trans rfl
                      have hcz19_1 : wc.cell? ⟨gb302, 1, none⟩ = some (.int .i64 ((rd_T36 t298 x10_1).f1)) := (blk_cell BK302.out 1).trans rfl
                      have hfz19_0 := blk_frozen BK302.out 0
                      have hfz19_1 := blk_frozen BK302.out 1
                      go_wp2
                      go_meet
                      case rel => exact ⟨_, (false), (by first | rfl | (simp; done) | (simp [*]; done)), H', ⟨by have := HK1.out; have := HJ7.out; first | omega | exact Nat.le_refl _⟩, ⟨by (with_reducible repeat (first | apply Kd.R_alloc | apply Kd.R_drewN | apply Kd.R_drew)); exact HO_8.out⟩, ⟨by (with_reducible repeat (first | refine blk_drewN ?_ _ | refine blk_drew ?_ | refine blk_alloc ?_ _)); exact BK302.out⟩, ⟨by repeat (first | (with_reducible first | exact HB.out | apply below_alloc | apply pw_below_drewN | apply below_drew1 | refine below_set ?_ GE302.out) | exact HB.out)⟩⟩
                  case rest =>
                    clear HC16
                    try clear c1
                    try clear p2
                    try clear c3
                    try clear p3
                    try clear q3
                    try clear hx3
                    try clear c5
                    try clear c5b0
                    try clear c6
                    try clear c6b0
                    try clear p6
                    try clear c7
                    try clear c7b0
                    try clear c11
                    try clear c11b0
                    try clear c11b1
                    try clear c14
                    try clear c15
                    try clear c15b0
                    try clear c15b1
                    try clear c15b2
                    try clear c17
                    try clear c17b0
                    try clear c17b1
                    try clear hcz10_0
                    try clear hcz10_1
                    try clear hcz12_0
                    try clear hcz12_1
                    try clear hcz13_0
                    try clear hcz13_1
                    try clear hcz18_0
                    try clear hcz18_1
                    try clear hcz19_0
                    try clear hcz19_1
                    try clear hfz10_0
                    try clear hfz10_1
                    try clear hfz12_0
                    try clear hfz12_1
                    try clear hfz13_0
                    try clear hfz13_1
                    try clear hfz18_0
                    try clear hfz18_1
                    try clear hfz19_0
                    try clear hfz19_1
                    try clear hx301_0
                    try clear hx301_1
                    try clear p2
                    try clear p3
                    try clear p301
                    try clear q3
                    try clear q301
                    obtain ⟨kq, x26_15, rfl, HA, HJ15, HO_8, BK302, HB⟩ := hcut
                    cases kq with
                    | zero => exact absurd HA.out (by simp [impl_signalOf.j2])
                    | succ kj15 =>
                      have H := HA.out
                      clear HA
                      simp only [impl_signalOf.j2] at H
                      by_cases c20 : x26_15 = true
                      · subst c20
                        have H1 : (if x4_1.size + 1 ≤ 9223372036854775807 then (impl_signalOf.l0 kj15 a0 (x4_1 ++ (⟨#[45]⟩ : ByteArray)) t298 (t298.length : Int) (wrap64 (x10_1 + 1))) else (none)) = some (r1, r2) := by rw [if_pos rfl] at H; exact H
                        clear H
                        have H := H1
                        clear H1
                        by_cases c21 : x4_1.size + 1 ≤ 9223372036854775807
                        · rw [if_pos c21] at H
                          have c21b0 := eq_true c21
                          have c21b1 : decide (x4_1.size + 1 ≤ 9223372036854775807) = true := decide_eq_true c21
                          try have c21b2 : (9223372036854775807 < x4_1.size + 1) = False := eq_false (Nat.not_lt.2 c21)
                          have H' := Aside0.mk H
                          clear H
                          go_wp2
                          go_roundg kj15
                          case measure => have := HK1.out; have := HJ7.out; have := HJ15.out; omega
                          case rel => exact ⟨(x4_1 ++ (⟨#[45]⟩ : ByteArray)), (wrap64 (x10_1 + 1)), (by first | rfl | (simp; done) | (simp [*]; done)), (by first | rfl | (simp; done) | (simp [*]; done)), H', ⟨by have := HK1.out; have := HJ7.out; have := HJ15.out; omega⟩, ⟨by (with_reducible repeat (first | apply Kd.R_alloc | apply Kd.R_drewN | apply Kd.R_drew)); exact Kd.R_mono HO_8.out (fun _ hk => trivial)⟩, ⟨by repeat (first | (with_reducible first | exact HB.out | apply below_alloc | apply pw_below_drewN | apply below_drew1 | refine below_set ?_ GE302.out) | exact HB.out)⟩⟩
                        · rw [if_neg c21] at H
                          exact absurd H (by simp)
                      · replace c20 := Bool.eq_false_iff.mpr c20
                        subst c20
                        have H1 : (if ((rd_T36 t298 x10_1).f0) = 0 then (if ((rd_T36 t298 x10_1).f1) = 1 then (impl_signalOf.j3 kj15 a0 x4_1 t298 (t298.length : Int) x10_1 (decide (x10_1 > 0)) ((rd_T36 t298 x10_1).f0) ((rd_T36 t298 x10_1).f1)) else (impl_signalOf.j3 kj15 a0 x4_1 t298 (t298.length : Int) x10_1 false ((rd_T36 t298 x10_1).f0) ((rd_T36 t298 x10_1).f1))) else (impl_signalOf.j3 kj15 a0 x4_1 t298 (t298.length : Int) x10_1 false ((rd_T36 t298 x10_1).f0) ((rd_T36 t298 x10_1).f1))) = some (r1, r2) := by rw [if_neg (show ¬ (false = true) by decide)] at H; exact H
                        clear H
                        have H := H1
                        clear H1
                        have HC22 := Aside0.mk H
                        clear H
                        go_upto_region 10 with (fail)
                        go_cut [37] (fun v37 wc => ∃ (kq : Nat) (x37_21 : Bool), v37 = .bool x37_21 ∧ Aside0 (impl_signalOf.j3 kq a0 x4_1 t298 (t298.length : Int) x10_1 x37_21 ((rd_T36 t298 x10_1).f0) ((rd_T36 t298 x10_1).f1) = some (r1, r2)) ∧ Aside0 (kq ≤ kj15) ∧ Aside0 (Kd.R k36 36 wc w.heap.size (fun k_ => k_ ≠ gb302) (.slice (some ad301) t298.length co4) t298) ∧ Aside0 (wc.heap[gb302]? = some (.cells #[.int .i64 ((rd_T36 t298 x10_1).f0), .int .i64 ((rd_T36 t298 x10_1).f1)] 36 (0, 0))) ∧ Aside0 (Below w.heap.size w wc))
                        case first =>
                          have H := HC22.out
                          clear HC22
                          by_cases c23 : ((rd_T36 t298 x10_1).f0) = 0
                          · rw [if_pos c23] at H
                            have c23b0 : (((rd_T36 t298 x10_1).f0) == 0) = true := beq_iff_eq.mpr c23
                            have c23b1 : (((rd_T36 t298 x10_1).f0) != 0) = false := bne_eq_false_iff_eq.mpr c23
                            clear c23
                            (first | rw [c23b0] | (simp only [i64_w, i32_w]; rw [c23b0]) | skip)
                            by_cases c24 : ((rd_T36 t298 x10_1).f1) = 1
                            · rw [if_pos c24] at H
                              have c24b0 : (((rd_T36 t298 x10_1).f1) == 1) = true := beq_iff_eq.mpr c24
                              have c24b1 : (((rd_T36 t298 x10_1).f1) != 1) = false := bne_eq_false_iff_eq.mpr c24
                              clear c24
                              have H' := Aside0.mk H
                              clear H
                              have hcz25_0 : wc.cell? ⟨gb302, 0, none⟩ = some (.int .i64 ((rd_T36 t298 x10_1).f0)) := (blk_cell BK302.out 0).trans rfl
                              have hcz25_1 : wc.cell? ⟨gb302, 1, none⟩ = some (.int .i64 ((rd_T36 t298 x10_1).f1)) := (blk_cell BK302.out 1).trans rfl
                              have hfz25_0 := blk_frozen BK302.out 0
                              have hfz25_1 := blk_frozen BK302.out 1
                              go_wp2
                              go_meet
                              case rel => exact ⟨_, (decide (x10_1 > 0)), (by first | rfl | (simp; done) | (simp [*]; done)), H', ⟨by have := HK1.out; have := HJ7.out; have := HJ15.out; first | omega | exact Nat.le_refl _⟩, ⟨by (with_reducible repeat (first | apply Kd.R_alloc | apply Kd.R_drewN | apply Kd.R_drew)); exact HO_8.out⟩, ⟨by (with_reducible repeat (first | refine blk_drewN ?_ _ | refine blk_drew ?_ | refine blk_alloc ?_ _)); exact BK302.out⟩, ⟨by repeat (first | (with_reducible first | exact HB.out | apply below_alloc | apply pw_below_drewN | apply below_drew1 | refine below_set ?_ GE302.out) | exact HB.out)⟩⟩
                            · rw [if_neg c24] at H
                              have c24b0 : (((rd_T36 t298 x10_1).f1) == 1) = false := beq_eq_false_iff_ne.mpr c24
                              have c24b1 : (((rd_T36 t298 x10_1).f1) != 1) = true := bne_iff_ne.mpr c24
                              have H' := Aside0.mk H
                              clear H
                              have hcz26_0 : wc.cell? ⟨gb302, 0, none⟩ = some (.int .i64 ((rd_T36 t298 x10_1).f0)) := (blk_cell BK302.out 0).trans rfl
                              have hcz26_1 : wc.cell? ⟨gb302, 1, none⟩ = some (.int .i64 ((rd_T36 t298 x10_1).f1)) := (blk_cell BK302.out 1).trans rfl
                              have hfz26_0 := blk_frozen BK302.out 0
                              have hfz26_1 := blk_frozen BK302.out 1
                              go_wp2
                              go_meet
                              case rel => exact ⟨_, (false), (by first | rfl | (simp; done) | (simp [*]; done)), H', ⟨by have := HK1.out; have := HJ7.out; have := HJ15.out; first | omega | exact Nat.le_refl _⟩, ⟨by (with_reducible repeat (first | apply Kd.R_alloc | apply Kd.R_drewN | apply Kd.R_drew)); exact HO_8.out⟩, ⟨by (with_reducible repeat (first | refine blk_drewN ?_ _ | refine blk_drew ?_ | refine blk_alloc ?_ _)); exact BK302.out⟩, ⟨by repeat (first | (with_reducible first | exact HB.out | apply below_alloc | apply pw_below_drewN | apply below_drew1 | refine below_set ?_ GE302.out) | exact HB.out)⟩⟩
                          · rw [if_neg c23] at H
                            have c23b0 : (((rd_T36 t298 x10_1).f0) == 0) = false := beq_eq_false_iff_ne.mpr c23
                            have c23b1 : (((rd_T36 t298 x10_1).f0) != 0) = true := bne_iff_ne.mpr c23
                            (first | rw [c23b0] | (simp only [i64_w, i32_w]; rw [c23b0]) | skip)
                            have H' := Aside0.mk H
                            clear H
                            have hcz27_0 : wc.cell? ⟨gb302, 0, none⟩ = some (.int .i64 ((rd_T36 t298 x10_1).f0)) := (blk_cell BK302.out 0).trans rfl
                            have hcz27_1 : wc.cell? ⟨gb302, 1, none⟩ = some (.int .i64 ((rd_T36 t298 x10_1).f1)) := (blk_cell BK302.out 1).trans rfl
                            have hfz27_0 := blk_frozen BK302.out 0
                            have hfz27_1 := blk_frozen BK302.out 1
                            go_wp2
                            go_meet
                            case rel => exact ⟨_, (false), (by first | rfl | (simp; done) | (simp [*]; done)), H', ⟨by have := HK1.out; have := HJ7.out; have := HJ15.out; first | omega | exact Nat.le_refl _⟩, ⟨by (with_reducible repeat (first | apply Kd.R_alloc | apply Kd.R_drewN | apply Kd.R_drew)); exact HO_8.out⟩, ⟨by (with_reducible repeat (first | refine blk_drewN ?_ _ | refine blk_drew ?_ | refine blk_alloc ?_ _)); exact BK302.out⟩, ⟨by repeat (first | (with_reducible first | exact HB.out | apply below_alloc | apply pw_below_drewN | apply below_drew1 | refine below_set ?_ GE302.out) | exact HB.out)⟩⟩
                        case rest =>
                          clear HC22
                          try clear c1
                          try clear c2
                          try clear p2
                          try clear c3
                          try clear p3
                          try clear q3
                          try clear hx3
                          try clear c5
                          try clear c5b0
                          try clear c6
                          try clear c6b0
                          try clear p6
                          try clear c7
                          try clear c7b0
                          try clear c11
                          try clear c11b0
                          try clear c11b1
                          try clear c14
                          try clear c15
                          try clear c15b0
                          try clear c15b1
                          try clear c15b2
                          try clear c17
                          try clear c17b0
                          try clear c17b1
                          try clear c20
                          try clear c21
                          try clear c21b0
                          try clear c21b1
                          try clear c21b2
                          try clear c23
                          try clear c23b0
                          try clear c23b1
                          try clear c24
                          try clear c24b0
                          try clear c24b1
                          try clear hcz10_0
                          try clear hcz10_1
                          try clear hcz12_0
                          try clear hcz12_1
                          try clear hcz13_0
                          try clear hcz13_1
                          try clear hcz18_0
                          try clear hcz18_1
                          try clear hcz19_0
                          try clear hcz19_1
                          try clear hcz25_0
                          try clear hcz25_1
                          try clear hcz26_0
                          try clear hcz26_1
                          try clear hcz27_0
                          try clear hcz27_1
                          try clear hfz10_0
                          try clear hfz10_1
                          try clear hfz12_0
                          try clear hfz12_1
                          try clear hfz13_0
                          try clear hfz13_1
                          try clear hfz18_0
                          try clear hfz18_1
                          try clear hfz19_0
                          try clear hfz19_1
                          try clear hfz25_0
                          try clear hfz25_1
                          try clear hfz26_0
                          try clear hfz26_1
                          try clear hfz27_0
                          try clear hfz27_1
                          try clear hx301_0
                          try clear hx301_1
                          try clear p2
                          try clear p3
                          try clear p301
                          try clear p6
                          try clear q3
                          try clear q301
                          obtain ⟨kq, x37_21, rfl, HA, HJ21, HO_8, BK302, HB⟩ := hcut
                          cases kq with
                          | zero => exact absurd HA.out (by simp [impl_signalOf.j3])
                          | succ kj21 =>
                            have H := HA.out
                            clear HA
                            simp only [impl_signalOf.j3] at H
                            by_cases c28 : x37_21 = true
                            · subst c28
                              have H1 : (impl_signalOf.l0 kj21 a0 x4_1 t298 (t298.length : Int) (wrap64 (x10_1 + 1))) = some (r1, r2) := by rw [if_pos rfl] at H; exact H
                              clear H
                              have H := H1
                              clear H1
                              have H' := Aside0.mk H
                              clear H
                              go_wp2
                              go_roundg kj21
                              case measure => have := HK1.out; have := HJ7.out; have := HJ15.out; have := HJ21.out; omega
                              case rel => exact ⟨(x4_1), (wrap64 (x10_1 + 1)), (by first | rfl | (simp; done) | (simp [*]; done)), (by first | rfl | (simp; done) | (simp [*]; done)), H', ⟨by have := HK1.out; have := HJ7.out; have := HJ15.out; have := HJ21.out; omega⟩, ⟨by (with_reducible repeat (first | apply Kd.R_alloc | apply Kd.R_drewN | apply Kd.R_drew)); exact Kd.R_mono HO_8.out (fun _ hk => trivial)⟩, ⟨by repeat (first | (with_reducible first | exact HB.out | apply below_alloc | apply pw_below_drewN | apply below_drew1 | refine below_set ?_ GE302.out) | exact HB.out)⟩⟩
                            · replace c28 := Bool.eq_false_iff.mpr c28
                              subst c28
                              have H1 : (if ((rd_T36 t298 x10_1).f0) = 0 then (impl_signalOf.j4 kj21 a0 x4_1 t298 (t298.length : Int) x10_1 (((rd_T36 t298 x10_1).f1) == 3) ((rd_T36 t298 x10_1).f0) ((rd_T36 t298 x10_1).f1)) else (impl_signalOf.j4 kj21 a0 x4_1 t298 (t298.length : Int) x10_1 false ((rd_T36 t298 x10_1).f0) ((rd_T36 t298 x10_1).f1))) = some (r1, r2) := by rw [if_neg (show ¬ (false = true) by decide)] at H; exact H
                              clear H
                              have H := H1
                              clear H1
                              have HC29 := Aside0.mk H
                              clear H
                              go_upto_region 11 with (fail)
                              go_cut [50] (fun v50 wc => ∃ (kq : Nat) (x50_28 : Bool), v50 = .bool x50_28 ∧ Aside0 (impl_signalOf.j4 kq a0 x4_1 t298 (t298.length : Int) x10_1 x50_28 ((rd_T36 t298 x10_1).f0) ((rd_T36 t298 x10_1).f1) = some (r1, r2)) ∧ Aside0 (kq ≤ kj21) ∧ Aside0 (Kd.R k36 36 wc w.heap.size (fun k_ => k_ ≠ gb302) (.slice (some ad301) t298.length co4) t298) ∧ Aside0 (wc.heap[gb302]? = some (.cells #[.int .i64 ((rd_T36 t298 x10_1).f0), .int .i64 ((rd_T36 t298 x10_1).f1)] 36 (0, 0))) ∧ Aside0 (Below w.heap.size w wc))
                              case first =>
                                have H := HC29.out
                                clear HC29
                                by_cases c30 : ((rd_T36 t298 x10_1).f0) = 0
                                · rw [if_pos c30] at H
                                  have c30b0 : (((rd_T36 t298 x10_1).f0) == 0) = true := beq_iff_eq.mpr c30
                                  have c30b1 : (((rd_T36 t298 x10_1).f0) != 0) = false := bne_eq_false_iff_eq.mpr c30
                                  clear c30
                                  (first | rw [c30b0] | (simp only [i64_w, i32_w]; rw [c30b0]) | skip)
                                  have H' := Aside0.mk H
                                  clear H
                                  have hcz31_0 : wc.cell? ⟨gb302, 0, none⟩ = some (.int .i64 ((rd_T36 t298 x10_1).f0)) := (blk_cell BK302.out 0).trans rfl
                                  have hcz31_1 : wc.cell? ⟨gb302, 1, none⟩ = some (.int .i64 ((rd_T36 t298 x10_1).f1)) := (blk_cell BK302.out 1).trans rfl
                                  have hfz31_0 := blk_frozen BK302.out 0
                                  have hfz31_1 := blk_frozen BK302.out 1
                                  go_wp2
                                  go_meet
                                  case rel => exact ⟨_, ((((rd_T36 t298 x10_1).f1) == 3)), (by first | rfl | (simp; done) | (simp [*]; done)), H', ⟨by have := HK1.out; have := HJ7.out; have := HJ15.out; have := HJ21.out; first | omega | exact Nat.le_refl _⟩, ⟨by (with_reducible repeat (first | apply Kd.R_alloc | apply Kd.R_drewN | apply Kd.R_drew)); exact HO_8.out⟩, ⟨by (with_reducible repeat (first | refine blk_drewN ?_ _ | refine blk_drew ?_ | refine blk_alloc ?_ _)); exact BK302.out⟩, ⟨by repeat (first | (with_reducible first | exact HB.out | apply below_alloc | apply pw_below_drewN | apply below_drew1 | refine below_set ?_ GE302.out) | exact HB.out)⟩⟩
                                · rw [if_neg c30] at H
                                  have c30b0 : (((rd_T36 t298 x10_1).f0) == 0) = false := beq_eq_false_iff_ne.mpr c30
                                  have c30b1 : (((rd_T36 t298 x10_1).f0) != 0) = true := bne_iff_ne.mpr c30
                                  (first | rw [c30b0] | (simp only [i64_w, i32_w]; rw [c30b0]) | skip)
                                  have H' := Aside0.mk H
                                  clear H
                                  have hcz32_0 : wc.cell? ⟨gb302, 0, none⟩ = some (.int .i64 ((rd_T36 t298 x10_1).f0)) := (blk_cell BK302.out 0).trans rfl
                                  have hcz32_1 : wc.cell? ⟨gb302, 1, none⟩ = some (.int .i64 ((rd_T36 t298 x10_1).f1)) := (blk_cell BK302.out 1).trans rfl
                                  have hfz32_0 := blk_frozen BK302.out 0
                                  have hfz32_1 := blk_frozen BK302.out 1
                                  go_wp2
                                  go_meet
                                  case rel => exact ⟨_, (false), (by first | rfl | (simp; done) | (simp [*]; done)), H', ⟨by have := HK1.out; have := HJ7.out; have := HJ15.out; have := HJ21.out; first | omega | exact Nat.le_refl _⟩, ⟨by (with_reducible repeat (first | apply Kd.R_alloc | apply Kd.R_drewN | apply Kd.R_drew)); exact HO_8.out⟩, ⟨by (with_reducible repeat (first | refine blk_drewN ?_ _ | refine blk_drew ?_ | refine blk_alloc ?_ _)); exact BK302.out⟩, ⟨by repeat (first | (with_reducible first | exact HB.out | apply below_alloc | apply pw_below_drewN | apply below_drew1 | refine below_set ?_ GE302.out) | exact HB.out)⟩⟩
                              case rest =>
                                clear HC29
                                try clear c1
                                try clear c2
                                try clear p2
                                try clear c3
                                try clear p3
                                try clear q3
                                try clear hx3
                                try clear c5
                                try clear c5b0
                                try clear c6
                                try clear c6b0
                                try clear p6
                                try clear c7
                                try clear c7b0
                                try clear c11
                                try clear c11b0
                                try clear c11b1
                                try clear c14
                                try clear c15
                                try clear c15b0
                                try clear c15b1
                                try clear c15b2
                                try clear c17
                                try clear c17b0
                                try clear c17b1
                                try clear c20
                                try clear c21
                                try clear c21b0
                                try clear c21b1
                                try clear c21b2
                                try clear c23
                                try clear c23b0
                                try clear c23b1
                                try clear c24
                                try clear c24b0
                                try clear c24b1
                                try clear c28
                                try clear c30
                                try clear c30b0
                                try clear c30b1
                                try clear p30
                                try clear q30
                                try clear hx30
                                try clear hcz10_0
                                try clear hcz10_1
                                try clear hcz12_0
                                try clear hcz12_1
                                try clear hcz13_0
                                try clear hcz13_1
                                try clear hcz18_0
                                try clear hcz18_1
                                try clear hcz19_0
                                try clear hcz19_1
                                try clear hcz25_0
                                try clear hcz25_1
                                try clear hcz26_0
                                try clear hcz26_1
                                try clear hcz27_0
                                try clear hcz27_1
                                try clear hcz31_0
                                try clear hcz31_1
                                try clear hcz32_0
                                try clear hcz32_1
                                try clear hfz10_0
                                try clear hfz10_1
                                try clear hfz12_0
                                try clear hfz12_1
                                try clear hfz13_0
                                try clear hfz13_1
                                try clear hfz18_0
                                try clear hfz18_1
                                try clear hfz19_0
                                try clear hfz19_1
                                try clear hfz25_0
                                try clear hfz25_1
                                try clear hfz26_0
                                try clear hfz26_1
                                try clear hfz27_0
                                try clear hfz27_1
                                try clear hfz31_0
                                try clear hfz31_1
                                try clear hfz32_0
                                try clear hfz32_1
                                try clear hx301_0
                                try clear hx301_1
                                try clear p2
                                try clear p3
                                try clear p301
                                try clear p6
                                try clear q3
                                try clear q301
                                obtain ⟨kq, x50_28, rfl, HA, HJ28, HO_8, BK302, HB⟩ := hcut
                                cases kq with
                                | zero => exact absurd HA.out (by simp [impl_signalOf.j4])
                                | succ kj28 =>
                                  have H := HA.out
                                  clear HA
                                  simp only [impl_signalOf.j4] at H
                                  by_cases c33 : x50_28 = true
                                  · subst c33
                                    have H1 : (if x4_1.size + 1 ≤ 9223372036854775807 then (impl_signalOf.l0 kj28 a0 (x4_1 ++ (⟨#[32]⟩ : ByteArray)) t298 (t298.length : Int) (wrap64 (x10_1 + 1))) else (none)) = some (r1, r2) := by rw [if_pos rfl] at H; exact H
                                    clear H
                                    have H := H1
                                    clear H1
                                    by_cases c34 : x4_1.size + 1 ≤ 9223372036854775807
                                    · rw [if_pos c34] at H
                                      have c34b0 := eq_true c34
                                      have c34b1 : decide (x4_1.size + 1 ≤ 9223372036854775807) = true := decide_eq_true c34
                                      try have c34b2 : (9223372036854775807 < x4_1.size + 1) = False := eq_false (Nat.not_lt.2 c34)
                                      have H' := Aside0.mk H
                                      clear H
                                      go_wp2
                                      go_roundg kj28
                                      case measure => have := HK1.out; have := HJ7.out; have := HJ15.out; have := HJ21.out; have := HJ28.out; omega
                                      case rel => exact ⟨(x4_1 ++ (⟨#[32]⟩ : ByteArray)), (wrap64 (x10_1 + 1)), (by first | rfl | (simp; done) | (simp [*]; done)), (by first | rfl | (simp; done) | (simp [*]; done)), H', ⟨by have := HK1.out; have := HJ7.out; have := HJ15.out; have := HJ21.out; have := HJ28.out; omega⟩, ⟨by (with_reducible repeat (first | apply Kd.R_alloc | apply Kd.R_drewN | apply Kd.R_drew)); exact Kd.R_mono HO_8.out (fun _ hk => trivial)⟩, ⟨by repeat (first | (with_reducible first | exact HB.out | apply below_alloc | apply pw_below_drewN | apply below_drew1 | refine below_set ?_ GE302.out) | exact HB.out)⟩⟩
                                    · rw [if_neg c34] at H
                                      exact absurd H (by simp)
                                  · replace c33 := Bool.eq_false_iff.mpr c33
                                    subst c33
                                    have H1 : (if ((rd_T36 t298 x10_1).f0) = 0 then (if ((rd_T36 t298 x10_1).f1) = 7 then (if x4_1.size + 1 ≤ 9223372036854775807 then (impl_signalOf.l0 kj28 a0 (x4_1 ++ (⟨#[47]⟩ : ByteArray)) t298 (t298.length : Int) (wrap64 (x10_1 + 1))) else (none)) else (some ((⟨#[]⟩ : ByteArray), false))) else (some ((⟨#[]⟩ : ByteArray), false))) = some (r1, r2) := by rw [if_neg (show ¬ (false = true) by decide)] at H; exact H
                                    clear H
                                    have H := H1
                                    clear H1
                                    by_cases c35 : ((rd_T36 t298 x10_1).f0) = 0
                                    · rw [if_pos c35] at H
                                      have c35b0 : (((rd_T36 t298 x10_1).f0) == 0) = true := beq_iff_eq.mpr c35
                                      have c35b1 : (((rd_T36 t298 x10_1).f0) != 0) = false := bne_eq_false_iff_eq.mpr c35
                                      clear c35
                                      by_cases c36 : ((rd_T36 t298 x10_1).f1) = 7
                                      · rw [if_pos c36] at H
                                        have c36b0 : (((rd_T36 t298 x10_1).f1) == 7) = true := beq_iff_eq.mpr c36
                                        have c36b1 : (((rd_T36 t298 x10_1).f1) != 7) = false := bne_eq_false_iff_eq.mpr c36
                                        clear c36
                                        by_cases c37 : x4_1.size + 1 ≤ 9223372036854775807
                                        · rw [if_pos c37] at H
                                          have c37b0 := eq_true c37
                                          have c37b1 : decide (x4_1.size + 1 ≤ 9223372036854775807) = true := decide_eq_true c37
                                          try have c37b2 : (9223372036854775807 < x4_1.size + 1) = False := eq_false (Nat.not_lt.2 c37)
                                          have H' := Aside0.mk H
                                          clear H
                                          have hcz38_0 : wc.cell? ⟨gb302, 0, none⟩ = some (.int .i64 ((rd_T36 t298 x10_1).f0)) := (blk_cell BK302.out 0).trans rfl
                                          have hcz38_1 : wc.cell? ⟨gb302, 1, none⟩ = some (.int .i64 ((rd_T36 t298 x10_1).f1)) := (blk_cell BK302.out 1).trans rfl
                                          have hfz38_0 := blk_frozen BK302.out 0
                                          have hfz38_1 := blk_frozen BK302.out 1
                                          go_wp2
                                          go_roundg kj28
                                          case measure => have := HK1.out; have := HJ7.out; have := HJ15.out; have := HJ21.out; have := HJ28.out; omega
                                          case rel => exact ⟨(x4_1 ++ (⟨#[47]⟩ : ByteArray)), (wrap64 (x10_1 + 1)), (by first | rfl | (simp; done) | (simp [*]; done)), (by first | rfl | (simp; done) | (simp [*]; done)), H', ⟨by have := HK1.out; have := HJ7.out; have := HJ15.out; have := HJ21.out; have := HJ28.out; omega⟩, ⟨by (with_reducible repeat (first | apply Kd.R_alloc | apply Kd.R_drewN | apply Kd.R_drew)); exact Kd.R_mono HO_8.out (fun _ hk => trivial)⟩, ⟨by repeat (first | (with_reducible first | exact HB.out | apply below_alloc | apply pw_below_drewN | apply below_drew1 | refine below_set ?_ GE302.out) | exact HB.out)⟩⟩
                                        · rw [if_neg c37] at H
                                          exact absurd H (by simp)
                                      · rw [if_neg c36] at H
                                        have c36b0 : (((rd_T36 t298 x10_1).f1) == 7) = false := beq_eq_false_iff_ne.mpr c36
                                        have c36b1 : (((rd_T36 t298 x10_1).f1) != 7) = true := bne_iff_ne.mpr c36
                                        simp only [Option.some.injEq, Prod.mk.injEq] at H
                                        obtain ⟨rfl, rfl⟩ := H
                                        have hcz39_0 : wc.cell? ⟨gb302, 0, none⟩ = some (.int .i64 ((rd_T36 t298 x10_1).f0)) := (blk_cell BK302.out 0).trans rfl
                                        have hcz39_1 : wc.cell? ⟨gb302, 1, none⟩ = some (.int .i64 ((rd_T36 t298 x10_1).f1)) := (blk_cell BK302.out 1).trans rfl
                                        have hfz39_0 := blk_frozen BK302.out 0
                                        have hfz39_1 := blk_frozen BK302.out 1
                                        go_wp2
                                        go_ret2
                                        exact ⟨by first | rfl | (simp [errW_none, errW_some] <;> rfl) | (simp [*, errW_none, errW_some] <;> rfl), by repeat (first | (with_reducible first | exact HB.out | apply below_alloc | apply pw_below_drewN | apply below_drew1 | refine below_set ?_ GE302.out) | exact HB.out)⟩
                                    · rw [if_neg c35] at H
                                      have c35b0 : (((rd_T36 t298 x10_1).f0) == 0) = false := beq_eq_false_iff_ne.mpr c35
                                      have c35b1 : (((rd_T36 t298 x10_1).f0) != 0) = true := bne_iff_ne.mpr c35
                                      simp only [Option.some.injEq, Prod.mk.injEq] at H
                                      obtain ⟨rfl, rfl⟩ := H
                                      have hcz40_0 : wc.cell? ⟨gb302, 0, none⟩ = some (.int .i64 ((rd_T36 t298 x10_1).f0)) := (blk_cell BK302.out 0).trans rfl
                                      have hcz40_1 : wc.cell? ⟨gb302, 1, none⟩ = some (.int .i64 ((rd_T36 t298 x10_1).f1)) := (blk_cell BK302.out 1).trans rfl
                                      have hfz40_0 := blk_frozen BK302.out 0
                                      have hfz40_1 := blk_frozen BK302.out 1
                                      go_wp2
                                      go_ret2
                                      exact ⟨by first | rfl | (simp [errW_none, errW_some] <;> rfl) | (simp [*, errW_none, errW_some] <;> rfl), by repeat (first | (with_reducible first | exact HB.out | apply below_alloc | apply pw_below_drewN | apply below_drew1 | refine below_set ?_ GE302.out) | exact HB.out)⟩
          · rw [if_neg c7] at H
            exact absurd H (by simp)
        · rw [if_neg c6] at H
          exact absurd H (by simp)
      · rw [if_neg c5] at H
        have c5b0 : decide (x10_1 < (t298.length : Int)) = false := decide_eq_false c5
        clear c5
        replace H := Option.bind_eq_some_iff.mp H
        obtain ⟨t303, A410, H⟩ := H
        replace H : (if t303 = true then ((impl_lineOf.f k1 x4_1).bind fun t304 => (if t304.toList = a0.toList then (some (x4_1, true)) else (some ((⟨#[]⟩ : ByteArray), false)))) else (some ((⟨#[]⟩ : ByteArray), false))) = some (r1, r2) := H
        have A41 := Aside0.mk A410
        clear A410
        by_cases c42 : t303 = true
        · subst c42
          have H1 : ((impl_lineOf.f k1 x4_1).bind fun t304 => (if t304.toList = a0.toList then (some (x4_1, true)) else (some ((⟨#[]⟩ : ByteArray), false)))) = some (r1, r2) := by rw [if_pos rfl] at H; exact H
          clear H
          have H := H1
          clear H1
          replace H := Option.bind_eq_some_iff.mp H
          obtain ⟨t304, A430, H⟩ := H
          replace H : (if t304.toList = a0.toList then (some (x4_1, true)) else (some ((⟨#[]⟩ : ByteArray), false))) = some (r1, r2) := H
          have A43 := Aside0.mk A430
          clear A430
          by_cases c44 : t304.toList = a0.toList
          · rw [if_pos c44] at H
            have c44b0 : (t304.toList == a0.toList) = true := beq_iff_eq.mpr c44
            have c44b1 : (t304.toList != a0.toList) = false := bne_eq_false_iff_eq.mpr c44
            clear c44
            simp only [Option.some.injEq, Prod.mk.injEq] at H
            obtain ⟨rfl, rfl⟩ := H
            go_wp2_with (first | ((with_reducible refine gate_callee (f := 28) rfl ?_); refine goesL_ (some 74) rfl rfl Tryd.func28 (by kernel_rfl) rfl #[.string x4_1] rfl (by (try simp only [List.map_toArray, List.map_cons, List.map_nil]); first | done | rfl | (simp only [List.length_drop, List.length_take]; rfl)) ?_; (with_reducible refine (impl_isSignal.calls k1 x4_1 true _ A41.out).mono ?_); rintro e w45 ⟨rfl, hb⟩; refine ⟨_, rfl, ?_⟩; have n0_ := Aside0.mk (Kd.R_below (by (with_reducible repeat (first | apply Kd.R_alloc | apply Kd.R_drewN | apply Kd.R_drew)); exact HO_8.out) hb); have n1_ := Aside0.mk (below_step (by repeat (first | (with_reducible first | exact HB.out | apply below_alloc | apply pw_below_drewN | apply below_drew1) | exact HB.out)) hb); clear HO_8; clear HB; have HO_8 := n0_; have HB := n1_; clear n0_ n1_; (try clear hb); (try clear hb2); (try clear hk); (try clear hi)) | (go_at_call 30; (with_reducible refine (impl_lineOf.calls k1 x4_1 t304 _ A43.out).mono ?_); rintro e w46 ⟨rfl, hb⟩; have n0_ := Aside0.mk (Kd.R_below (by (with_reducible repeat (first | apply Kd.R_alloc | apply Kd.R_drewN | apply Kd.R_drew)); exact HO_8.out) hb); have n1_ := Aside0.mk (below_step (by repeat (first | (with_reducible first | exact HB.out | apply below_alloc | apply pw_below_drewN | apply below_drew1) | exact HB.out)) hb); clear HO_8; clear HB; have HO_8 := n0_; have HB := n1_; clear n0_ n1_; (try clear hb); (try clear hb2); (try clear hk); (try clear hi)))
            go_ret2
            exact ⟨by first | rfl | (simp [errW_none, errW_some] <;> rfl) | (simp [*, errW_none, errW_some] <;> rfl), by repeat (first | (with_reducible first | exact HB.out | apply below_alloc | apply pw_below_drewN | apply below_drew1) | exact HB.out)⟩
          · rw [if_neg c44] at H
            have c44b0 : (t304.toList == a0.toList) = false := beq_eq_false_iff_ne.mpr c44
            have c44b1 : (t304.toList != a0.toList) = true := bne_iff_ne.mpr c44
            simp only [Option.some.injEq, Prod.mk.injEq] at H
            obtain ⟨rfl, rfl⟩ := H
            go_wp2_with (first | ((with_reducible refine gate_callee (f := 28) rfl ?_); refine goesL_ (some 74) rfl rfl Tryd.func28 (by kernel_rfl) rfl #[.string x4_1] rfl (by (try simp only [List.map_toArray, List.map_cons, List.map_nil]); first | done | rfl | (simp only [List.length_drop, List.length_take]; rfl)) ?_; (with_reducible refine (impl_isSignal.calls k1 x4_1 true _ A41.out).mono ?_); rintro e w47 ⟨rfl, hb⟩; refine ⟨_, rfl, ?_⟩; have n0_ := Aside0.mk (Kd.R_below (by (with_reducible repeat (first | apply Kd.R_alloc | apply Kd.R_drewN | apply Kd.R_drew)); exact HO_8.out) hb); have n1_ := Aside0.mk (below_step (by repeat (first | (with_reducible first | exact HB.out | apply below_alloc | apply pw_below_drewN | apply below_drew1) | exact HB.out)) hb); clear HO_8; clear HB; have HO_8 := n0_; have HB := n1_; clear n0_ n1_; (try clear hb); (try clear hb2); (try clear hk); (try clear hi)) | (go_at_call 30; (with_reducible refine (impl_lineOf.calls k1 x4_1 t304 _ A43.out).mono ?_); rintro e w48 ⟨rfl, hb⟩; have n0_ := Aside0.mk (Kd.R_below (by (with_reducible repeat (first | apply Kd.R_alloc | apply Kd.R_drewN | apply Kd.R_drew)); exact HO_8.out) hb); have n1_ := Aside0.mk (below_step (by repeat (first | (with_reducible first | exact HB.out | apply below_alloc | apply pw_below_drewN | apply below_drew1) | exact HB.out)) hb); clear HO_8; clear HB; have HO_8 := n0_; have HB := n1_; clear n0_ n1_; (try clear hb); (try clear hb2); (try clear hk); (try clear hi)))
            go_ret2
            exact ⟨by first | rfl | (simp [errW_none, errW_some] <;> rfl) | (simp [*, errW_none, errW_some] <;> rfl), by repeat (first | (with_reducible first | exact HB.out | apply below_alloc | apply pw_below_drewN | apply below_drew1) | exact HB.out)⟩
        · replace c42 := Bool.eq_false_iff.mpr c42
          subst c42
          have H1 : (some ((⟨#[]⟩ : ByteArray), false)) = some (r1, r2) := by rw [if_neg (show ¬ (false = true) by decide)] at H; exact H
          clear H
          have H := H1
          clear H1
          simp only [Option.some.injEq, Prod.mk.injEq] at H
          obtain ⟨rfl, rfl⟩ := H
          go_wp2_with (first | ((with_reducible refine gate_callee (f := 28) rfl ?_); refine goesL_ (some 74) rfl rfl Tryd.func28 (by kernel_rfl) rfl #[.string x4_1] rfl (by (try simp only [List.map_toArray, List.map_cons, List.map_nil]); first | done | rfl | (simp only [List.length_drop, List.length_take]; rfl)) ?_; (with_reducible refine (impl_isSignal.calls k1 x4_1 false _ A41.out).mono ?_); rintro e w49 ⟨rfl, hb⟩; refine ⟨_, rfl, ?_⟩; have n0_ := Aside0.mk (Kd.R_below (by (with_reducible repeat (first | apply Kd.R_alloc | apply Kd.R_drewN | apply Kd.R_drew)); exact HO_8.out) hb); have n1_ := Aside0.mk (below_step (by repeat (first | (with_reducible first | exact HB.out | apply below_alloc | apply pw_below_drewN | apply below_drew1) | exact HB.out)) hb); clear HO_8; clear HB; have HO_8 := n0_; have HB := n1_; clear n0_ n1_; (try clear hb); (try clear hb2); (try clear hk); (try clear hi)))
          go_ret2
          exact ⟨by first | rfl | (simp [errW_none, errW_some] <;> rfl) | (simp [*, errW_none, errW_some] <;> rfl), by repeat (first | (with_reducible first | exact HB.out | apply below_alloc | apply pw_below_drewN | apply below_drew1) | exact HB.out)⟩

end Go.Proofs.YtbdagfdhkobbcaaDoor.HFnExactReadLine
