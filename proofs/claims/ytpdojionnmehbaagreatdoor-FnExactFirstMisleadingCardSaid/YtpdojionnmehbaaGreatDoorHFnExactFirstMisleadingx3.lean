/- What the machine does at each Go function that the law reaches is what the Lean function of its name says. -/
import Derived.Test.YtpdojionnmehbaaGreatDoorHFnExactFirstMisleadingx0
import Derived.Test.YtpdojionnmehbaaGreatDoorHFnExactFirstMisleadingx2
namespace Go.Proofs.YtpdojionnmehbaaGreatDoor.HFnExactFirstMisleading
open Go.RowKit Go.Proofs.YtpdojionnmehbaaGreatDoorW.PrintWords Go.Proofs.YtpdojionnmehbaaGreatDoorW.PrintLast Go.Proofs.YtpdojionnmehbaaGreatDoorW.PrintMore
attribute [local go_sem] max2_int min2_int max_two min_two max_three min_three max_four min_four   -- for this text's walks alone
set_option linter.unusedVariables false
set_option linter.unusedSimpArgs false

theorem nilne_ (l : List UInt8) : l.isEmpty = !(l != []) := by cases l <;> rfl
/-! ### spec_l3Step: function 43 -/
mutual
def spec_l3Step.l0 : Nat → Int → List ByteArray → List ByteArray → List ByteArray → Bool → Option (List ByteArray × List ByteArray × Bool)
  | 0, _, _, _, _, _ => none
  | k + 1, x5, x141000, x142000, x142001, x142002 => if x5 < (x142000.length : Int) then (if 0 ≤ x5 then (if x5 < (x142001.length : Int) then (spec_l3Step.l1 k x5 (rdOf ByteArray.empty x142000 x5) (rdOf ByteArray.empty x142001 x5) 0 x141000 x142000 x142001 x142002) else (none)) else (none)) else (some (x142000, x142001, x142002))
def spec_l3Step.l1 : Nat → Int → ByteArray → ByteArray → Int → List ByteArray → List ByteArray → List ByteArray → Bool → Option (List ByteArray × List ByteArray × Bool)
  | 0, _, _, _, _, _, _, _, _ => none
  | k + 1, x5, x6, x7, x8, x141000, x142000, x142001, x142002 => if x8 < (x141000.length : Int) then (spec_l3Step.j2 k x5 x6 x7 x8 (x6.toList != ([] : List UInt8)) x141000 x142000 x142001 x142002) else (spec_l3Step.j2 k x5 x6 x7 x8 false x141000 x142000 x142001 x142002)
def spec_l3Step.j2 : Nat → Int → ByteArray → ByteArray → Int → Bool → List ByteArray → List ByteArray → List ByteArray → Bool → Option (List ByteArray × List ByteArray × Bool)
  | 0, _, _, _, _, _, _, _, _, _ => none
  | k + 1, x5, x6, x7, x8, x35, x141000, x142000, x142001, x142002 => if x35 = true then (if 0 ≤ x8 then (if x8 < (x141000.length : Int) then ((spec_l3Begins.f x6 (rdOf ByteArray.empty x141000 x8)).bind fun t146 => (if t146 = true then (if 0 ≤ ((rdOf ByteArray.empty x141000 x8).size : Int) then (if ((rdOf ByteArray.empty x141000 x8).size : Int) ≤ (x6.size : Int) then ((spec_l3Put.f k x142000 x142001 x142002 (x6.extract (((rdOf ByteArray.empty x141000 x8).size : Int) : Int).toNat x6.size) x7).bind fun bt148 => (spec_l3Step.l1 k x5 x6 x7 (wrap64 (x8 + 1)) x141000 bt148.1 bt148.2.1 bt148.2.2)) else (none)) else (none)) else ((spec_l3Begins.f (rdOf ByteArray.empty x141000 x8) x6).bind fun t156 => (if t156 = true then (if 0 ≤ (x6.size : Int) then (if (x6.size : Int) ≤ ((rdOf ByteArray.empty x141000 x8).size : Int) then (if x7.size + ((rdOf ByteArray.empty x141000 x8).extract ((x6.size : Int) : Int).toNat (rdOf ByteArray.empty x141000 x8).size).size ≤ 9223372036854775807 then ((spec_l3Put.f k x142000 x142001 x142002 ((rdOf ByteArray.empty x141000 x8).extract ((x6.size : Int) : Int).toNat (rdOf ByteArray.empty x141000 x8).size) (x7 ++ ((rdOf ByteArray.empty x141000 x8).extract ((x6.size : Int) : Int).toNat (rdOf ByteArray.empty x141000 x8).size))).bind fun bt159 => (spec_l3Step.l1 k x5 x6 x7 (wrap64 (x8 + 1)) x141000 bt159.1 bt159.2.1 bt159.2.2)) else (none)) else (none)) else (none)) else (spec_l3Step.l1 k x5 x6 x7 (wrap64 (x8 + 1)) x141000 x142000 x142001 x142002))))) else (none)) else (none)) else (spec_l3Step.l0 k (wrap64 (x5 + 1)) x141000 x142000 x142001 x142002)
end
def spec_l3Step.f (k : Nat) (l0_0 : List ByteArray) (l1_0 : List ByteArray) (l1_1 : List ByteArray) (a1_2 : Bool) : Option (List ByteArray × List ByteArray × Bool) := spec_l3Step.l0 k 0 l0_0 l1_0 l1_1 false
theorem spec_l3Step.mono_l : ∀ k, (∀ y0 y1 y2 y3 y4, LeO (spec_l3Step.l0 k y0 y1 y2 y3 y4) (spec_l3Step.l0 (k + 1) y0 y1 y2 y3 y4)) ∧ (∀ y0 y1 y2 y3 y4 y5 y6 y7, LeO (spec_l3Step.l1 k y0 y1 y2 y3 y4 y5 y6 y7) (spec_l3Step.l1 (k + 1) y0 y1 y2 y3 y4 y5 y6 y7)) ∧ (∀ y0 y1 y2 y3 y4 y5 y6 y7 y8, LeO (spec_l3Step.j2 k y0 y1 y2 y3 y4 y5 y6 y7 y8) (spec_l3Step.j2 (k + 1) y0 y1 y2 y3 y4 y5 y6 y7 y8))
  | 0 => ⟨fun _ _ _ _ _ r h => by simp [spec_l3Step.l0] at h, fun _ _ _ _ _ _ _ _ r h => by simp [spec_l3Step.l1] at h, fun _ _ _ _ _ _ _ _ _ r h => by simp [spec_l3Step.j2] at h⟩
  | k + 1 => by
    obtain ⟨ih0, ih1, ih2⟩ := spec_l3Step.mono_l k
    refine ⟨?_, ?_, ?_⟩
    · intro y0 y1 y2 y3 y4
      unfold spec_l3Step.l0
      repeat' first
      | (with_reducible exact ih0 _ _ _ _ _)
      | (with_reducible exact ih1 _ _ _ _ _ _ _ _)
      | (with_reducible exact ih2 _ _ _ _ _ _ _ _ _)
      | (with_reducible exact spec_l3Put.mono _ _ _ _ _ _)
      | (with_reducible exact LeO.refl _)
      | (with_reducible exact LeO.none _)
      | (with_reducible refine LeO.ite ?_ ?_)
      | (with_reducible refine LeO.bind ?_ (fun _ => ?_))
      | exact ih0 _ _ _ _ _
      | exact ih1 _ _ _ _ _ _ _ _
      | exact ih2 _ _ _ _ _ _ _ _ _
      | exact spec_l3Put.mono _ _ _ _ _ _
      | exact LeO.none _
      | refine LeO.ite ?_ ?_
      | refine LeO.bind ?_ (fun _ => ?_)
    · intro y0 y1 y2 y3 y4 y5 y6 y7
      unfold spec_l3Step.l1
      repeat' first
      | (with_reducible exact ih0 _ _ _ _ _)
      | (with_reducible exact ih1 _ _ _ _ _ _ _ _)
      | (with_reducible exact ih2 _ _ _ _ _ _ _ _ _)
      | (with_reducible exact spec_l3Put.mono _ _ _ _ _ _)
      | (with_reducible exact LeO.refl _)
      | (with_reducible exact LeO.none _)
      | (with_reducible refine LeO.ite ?_ ?_)
      | (with_reducible refine LeO.bind ?_ (fun _ => ?_))
      | exact ih0 _ _ _ _ _
      | exact ih1 _ _ _ _ _ _ _ _
      | exact ih2 _ _ _ _ _ _ _ _ _
      | exact spec_l3Put.mono _ _ _ _ _ _
      | exact LeO.none _
      | refine LeO.ite ?_ ?_
      | refine LeO.bind ?_ (fun _ => ?_)
    · intro y0 y1 y2 y3 y4 y5 y6 y7 y8
      unfold spec_l3Step.j2
      repeat' first
      | (with_reducible exact ih0 _ _ _ _ _)
      | (with_reducible exact ih1 _ _ _ _ _ _ _ _)
      | (with_reducible exact ih2 _ _ _ _ _ _ _ _ _)
      | (with_reducible exact spec_l3Put.mono _ _ _ _ _ _)
      | (with_reducible exact LeO.refl _)
      | (with_reducible exact LeO.none _)
      | (with_reducible refine LeO.ite ?_ ?_)
      | (with_reducible refine LeO.bind ?_ (fun _ => ?_))
      | exact ih0 _ _ _ _ _
      | exact ih1 _ _ _ _ _ _ _ _
      | exact ih2 _ _ _ _ _ _ _ _ _
      | exact spec_l3Put.mono _ _ _ _ _ _
      | exact LeO.none _
      | refine LeO.ite ?_ ?_
      | refine LeO.bind ?_ (fun _ => ?_)
theorem spec_l3Step.mono : ∀ a0 a1 a2 a3 k, LeO (spec_l3Step.f k a0 a1 a2 a3) (spec_l3Step.f (k + 1) a0 a1 a2 a3) := by
  intro a0 a1 a2 a3 k
  obtain ⟨ih0, ih1, ih2⟩ := spec_l3Step.mono_l k
  unfold spec_l3Step.f
  repeat' first
      | (with_reducible exact ih0 _ _ _ _ _)
      | (with_reducible exact ih1 _ _ _ _ _ _ _ _)
      | (with_reducible exact ih2 _ _ _ _ _ _ _ _ _)
      | (with_reducible exact spec_l3Put.mono _ _ _ _ _ _)
      | (with_reducible exact LeO.refl _)
      | (with_reducible exact LeO.none _)
      | (with_reducible refine LeO.ite ?_ ?_)
      | (with_reducible refine LeO.bind ?_ (fun _ => ?_))
      | exact ih0 _ _ _ _ _
      | exact ih1 _ _ _ _ _ _ _ _
      | exact ih2 _ _ _ _ _ _ _ _ _
      | exact spec_l3Put.mono _ _ _ _ _ _
      | exact LeO.none _
      | refine LeO.ite ?_ ?_
      | refine LeO.bind ?_ (fun _ => ?_)
def spec_l3Step.T5 : Bool × List (List Nat × List Nat) := (true, [([], []), ([0], [0]), ([], []), ([1, 2], [1, 2]), ([3], [3]), ([], []), ([5], [5]), ([], []), ([6, 7], [6, 7]), ([8], [8]), ([4, 0, 1, 2, 3, 4], [4]), ([9, 10, 0, 1, 2, 3, 4, 5, 6, 7, 8, 9, 10], [9])])
def spec_l3Step.B5 : List Nat := [0, 1, 0, 7, 15, 0, 32, 0, 224, 480, 31, 2047]
theorem spec_l3Step.tab5 : rtab .any (opsOf Tryz.f43 5) = spec_l3Step.T5 := by kernel_rfl
theorem spec_l3Step.bits5 : waitsOk spec_l3Step.T5.2 spec_l3Step.B5 = true := by kernel_rfl
def spec_l3Step.T10 : Bool × List (List Nat × List Nat) := (true, [([], []), ([], []), ([], []), ([2], [2]), ([], []), ([3, 4], [3, 4]), ([5], [5]), ([6], [6]), ([1, 7], [1, 7]), ([], []), ([0, 8, 9], [0, 8, 9]), ([10, 10, 0, 1, 2, 3, 4, 5, 6, 7, 8, 9, 10], [10])])
def spec_l3Step.B10 : List Nat := [0, 0, 0, 4, 0, 28, 60, 124, 254, 0, 1023, 2047]
theorem spec_l3Step.tab10 : rtab .any (opsOf Tryz.f43 10) = spec_l3Step.T10 := by kernel_rfl
theorem spec_l3Step.bits10 : waitsOk spec_l3Step.T10.2 spec_l3Step.B10 = true := by kernel_rfl
def spec_l3Step.T12 : Bool × List (List Nat × List Nat) := (true, [([], []), ([], []), ([1], [1]), ([], []), ([2, 3], [2, 3]), ([4], [4]), ([], []), ([6], [6]), ([5, 7], [5, 7]), ([], []), ([], []), ([10], [10]), ([], []), ([11, 12], [11, 12]), ([13], [13]), ([], []), ([15], [15]), ([14, 16], [14, 16]), ([9, 17], [9, 17]), ([0, 8, 18], [0, 8, 18]), ([19, 19, 0, 1, 2, 3, 4, 5, 6, 7, 8, 9, 10, 11, 12, 13, 14, 15, 16, 17, 18, 19], [19])])
def spec_l3Step.B12 : List Nat := [0, 0, 2, 0, 14, 30, 0, 64, 254, 0, 0, 1024, 0, 7168, 15360, 0, 32768, 130048, 261632, 524287, 1048575]
theorem spec_l3Step.tab12 : rtab .any (opsOf Tryz.f43 12) = spec_l3Step.T12 := by kernel_rfl
theorem spec_l3Step.bits12 : waitsOk spec_l3Step.T12.2 spec_l3Step.B12 = true := by kernel_rfl
set_option maxHeartbeats 8000000 in
set_option maxRecDepth 100000 in
theorem spec_l3Step.calls (k : Nat) (A0_0 : Option Addr) (c0_0 : Nat) (l0_0 : List ByteArray) (P1_0_ : Nat → Prop) (u9000_ : Value) (l1_0 : List ByteArray) (P1_1_ : Nat → Prop) (u9001_ : Value) (l1_1 : List ByteArray) (a1_2 : Bool) (r1 : List ByteArray) (r2 : List ByteArray) (r3 : Bool) (w0 w : World) (hB : Below w0.heap.size w0 w) (hr0_0 : ∀ W_, Kept w W_ (fun k_ => P1_0_ k_ ∨ P1_1_ k_) → Kd.C Kd.string W_ A0_0 l0_0.length l0_0) (hc0_0 : l0_0.length ≤ c0_0) (ho1_0 : Kd.R Kd.string 9 w w0.heap.size P1_0_ u9000_ l1_0) (hp1_0_1_1 : ∀ k_, P1_0_ k_ → ¬ P1_1_ k_) (ho1_1 : Kd.R Kd.string 9 w w0.heap.size P1_1_ u9001_ l1_1) (hp1_1_1_0 : ∀ k_, P1_1_ k_ → ¬ P1_0_ k_) (h : spec_l3Step.f k l0_0 l1_0 l1_1 a1_2 = some (r1, r2, r3)) :
    Calls Tryz.prog 43 #[.agg #[.slice A0_0 l0_0.length c0_0], .agg #[u9000_, u9001_, .bool a1_2]] w fun e w' => ∃ v0_ v1_ : Value, e = .returned (.agg #[v0_, v1_, .bool r3]) ∧ Kd.R Kd.string 9 w' w0.heap.size (fun k_ => ((P1_0_ k_ ∨ P1_1_ k_) ∨ w.heap.size ≤ k_) ∧ some k_ ≠ (v1_ : Value).ownBlock) v0_ r1 ∧ Kd.R Kd.string 9 w' w0.heap.size (fun k_ => ((P1_0_ k_ ∨ P1_1_ k_) ∨ w.heap.size ≤ k_) ∧ some k_ ≠ (v0_ : Value).ownBlock) v1_ r2 ∧ Below w0.heap.size w0 w' ∧ Kept w w' (fun k_ => P1_0_ k_ ∨ P1_1_ k_) := by
  have hu28 := Tryz.underlying28
  have hu52 := Tryz.underlying52
  have HR0_0 := Aside0.mk hr0_0
  have HC0_0 := Aside0.mk hc0_0
  clear hr0_0 hc0_0
  have HO1_0 := Aside0.mk (show Kd.R Kd.string 9 w w0.heap.size (fun k_ => ((P1_0_ k_ ∨ P1_1_ k_) ∨ w.heap.size ≤ k_) ∧ some k_ ≠ (u9001_ : Value).ownBlock) u9000_ l1_0 from Kd.R_mono ho1_0 (fun k_ hk => ⟨(.inl (.inl hk)), fun e_ => hp1_0_1_1 k_ hk (ho1_1.1 k_ e_.symm)⟩))
  have HO1_1 := Aside0.mk (show Kd.R Kd.string 9 w w0.heap.size (fun k_ => ((P1_0_ k_ ∨ P1_1_ k_) ∨ w.heap.size ≤ k_) ∧ some k_ ≠ (u9000_ : Value).ownBlock) u9001_ l1_1 from Kd.R_mono ho1_1 (fun k_ hk => ⟨(.inl (.inr hk)), fun e_ => hp1_1_1_0 k_ hk (ho1_0.1 k_ e_.symm)⟩))
  have HK := Aside0.mk (Kept.refl w (fun k_ => P1_0_ k_ ∨ P1_1_ k_))
  have HW0 := Aside0.mk hB.size
  have HB := Aside0.mk hB
  clear hB
  have H : (spec_l3Step.l0 k 0 l0_0 l1_0 l1_1 false) = some (r1, r2, r3) := h
  clear h
  have H' := Aside0.mk H
  clear H
  go_enter Tryz.func43, Tryz.ntmps43
  go_wp2_with (first | ((with_reducible refine gate_dst (N := 2) rfl ?_); refine box_event ?hg (N := 2) ?hd (cs := #[.slice A0_0 l0_0.length c0_0]) (t := 28) ?hr ?_; (case hd => rfl); (case hg => rfl); (case hr => first | (go_simp; done) | (go_simp; rfl)); intro gb140 hg w3 hbox hb; have n0_ := Aside0.mk (Kd.R_below (by (with_reducible repeat (first | apply Kd.R_alloc | apply Kd.R_drewN | apply Kd.R_drew)); exact HO1_0.out) hb); have n1_ := Aside0.mk (Kd.R_below (by (with_reducible repeat (first | apply Kd.R_alloc | apply Kd.R_drewN | apply Kd.R_drew)); exact HO1_1.out) hb); have n2_ := Aside0.mk (Kept.below (S := (fun k_ => P1_0_ k_ ∨ P1_1_ k_)) (by repeat (first | (with_reducible first | exact HK.out | apply Kept.alloc | apply Kept.drewN | apply Kept.drew) | exact HK.out)) hb); have n3_ := Aside0.mk (below_step (by repeat (first | (with_reducible first | exact HB.out | apply below_alloc | apply pw_below_drewN | apply below_drew1) | exact HB.out)) hb); have n4_ := Aside0.mk (hbox); have n5_ := Aside0.mk ((by rw [hg]; exact (by first | exact HK.out.1 | exact (show Kept w _ (fun k_ => P1_0_ k_ ∨ P1_1_ k_) from by repeat (first | (with_reducible first | exact HK.out | apply Kept.alloc | apply Kept.drewN | apply Kept.drew) | exact HK.out)).1) : w.heap.size ≤ gb140)); have n6_ := Aside0.mk ((by rw [hg]; exact (below_size (by repeat (first | (with_reducible first | exact HB.out | apply below_alloc | apply pw_below_drewN | apply below_drew1) | exact HB.out))) : w0.heap.size ≤ gb140)); clear HO1_0; clear HO1_1; clear HK; clear HB; have HO1_0 := n0_; have HO1_1 := n1_; have HK := n2_; have HB := n3_; have BK140 := n4_; have GW140 := n5_; have GE140 := n6_; clear n0_ n1_ n2_ n3_ n4_ n5_ n6_; clear hb hbox hg; obtain ⟨Ao4, co4, eo4⟩ := Kd.R_slice HO1_0.out; subst eo4; obtain ⟨Ao5, co5, eo5⟩ := Kd.R_slice HO1_1.out; subst eo5) | ((with_reducible refine gate_dst (N := 3) rfl ?_); refine box_event ?hg (N := 3) ?hd (cs := #[.slice Ao4 l1_0.length co4, .slice Ao5 l1_1.length co5, .bool a1_2]) (t := 52) ?hr ?_; (case hd => rfl); (case hg => rfl); (case hr => first | (go_simp; done) | (go_simp; rfl)); intro gb141 hg w6 hbox hb; have n0_ := Aside0.mk (Kd.R_below (by (with_reducible repeat (first | apply Kd.R_alloc | apply Kd.R_drewN | apply Kd.R_drew)); exact HO1_0.out) hb); have n1_ := Aside0.mk (Kd.R_below (by (with_reducible repeat (first | apply Kd.R_alloc | apply Kd.R_drewN | apply Kd.R_drew)); exact HO1_1.out) hb); have n2_ := Aside0.mk (blk_below (g := gb140) (o := .cells #[.slice A0_0 l0_0.length c0_0] 28 (0, 0)) (by (with_reducible repeat (first | refine blk_drewN ?_ _ | refine blk_drew ?_ | refine blk_alloc ?_ _)); exact BK140.out) hb); have n3_ := Aside0.mk (Kept.below (S := (fun k_ => P1_0_ k_ ∨ P1_1_ k_)) (by repeat (first | (with_reducible first | exact HK.out | apply Kept.alloc | apply Kept.drewN | apply Kept.drew | refine Kept.setCell ?_ (.inr GW140.out) _) | exact HK.out)) hb); have n4_ := Aside0.mk (below_step (by repeat (first | (with_reducible first | exact HB.out | apply below_alloc | apply pw_below_drewN | apply below_drew1 | refine below_set ?_ GE140.out) | exact HB.out)) hb); have n5_ := Aside0.mk (hbox); have n6_ := Aside0.mk ((by rw [hg]; exact (by first | exact HK.out.1 | exact (show Kept w _ (fun k_ => P1_0_ k_ ∨ P1_1_ k_) from by repeat (first | (with_reducible first | exact HK.out | apply Kept.alloc | apply Kept.drewN | apply Kept.drew | refine Kept.setCell ?_ (.inr GW140.out) _) | exact HK.out)).1) : w.heap.size ≤ gb141)); have n7_ := Aside0.mk ((by rw [hg]; exact (below_size (by repeat (first | (with_reducible first | exact HB.out | apply below_alloc | apply pw_below_drewN | apply below_drew1 | refine below_set ?_ GE140.out) | exact HB.out))) : w0.heap.size ≤ gb141)); have n8_ := Aside0.mk ((by rw [hg]; exact Nat.ne_of_lt (blk_lt (g := gb140) (o := .cells #[.slice A0_0 l0_0.length c0_0] 28 (0, 0)) (by (with_reducible repeat (first | refine blk_drewN ?_ _ | refine blk_drew ?_ | refine blk_alloc ?_ _)); exact BK140.out)) : gb140 ≠ gb141)); have n9_ := Aside0.mk ((by rw [hg]; exact Nat.ne_of_gt (blk_lt (g := gb140) (o := .cells #[.slice A0_0 l0_0.length c0_0] 28 (0, 0)) (by (with_reducible repeat (first | refine blk_drewN ?_ _ | refine blk_drew ?_ | refine blk_alloc ?_ _)); exact BK140.out)) : gb141 ≠ gb140)); clear HO1_0; clear HO1_1; clear BK140; clear HK; clear HB; have HO1_0 := n0_; have HO1_1 := n1_; have BK140 := n2_; have HK := n3_; have HB := n4_; have BK141 := n5_; have GW141 := n6_; have GE141 := n7_; have NB140_141 := n8_; have NB141_140 := n9_; clear n0_ n1_ n2_ n3_ n4_ n5_ n6_ n7_ n8_ n9_; clear hb hbox hg) | ((with_reducible refine gate_dst (N := 4) rfl ?_); refine box_event ?hg (N := 4) ?hd (cs := #[.slice none 0 0, .slice none 0 0, .bool false]) (t := 52) ?hr ?_; (case hd => rfl); (case hg => rfl); (case hr => first | (go_simp; done) | (go_simp; rfl)); intro gb142 hg w7 hbox hb; have n0_ := Aside0.mk (Kd.R_below (by (with_reducible repeat (first | apply Kd.R_alloc | apply Kd.R_drewN | apply Kd.R_drew)); exact HO1_0.out) hb); have n1_ := Aside0.mk (Kd.R_below (by (with_reducible repeat (first | apply Kd.R_alloc | apply Kd.R_drewN | apply Kd.R_drew)); exact HO1_1.out) hb); have n2_ := Aside0.mk (blk_below (g := gb140) (o := .cells #[.slice A0_0 l0_0.length c0_0] 28 (0, 0)) (by (with_reducible repeat (first | refine blk_drewN ?_ _ | refine blk_drew ?_ | refine blk_alloc ?_ _)); exact BK140.out) hb); have n3_ := Aside0.mk (blk_below (g := gb141) (o := .cells #[.slice Ao4 l1_0.length co4, .slice Ao5 l1_1.length co5, .bool a1_2] 52 (0, 0)) (by (with_reducible repeat (first | refine blk_drewN ?_ _ | refine blk_drew ?_ | refine blk_alloc ?_ _)); exact BK141.out) hb); have n4_ := Aside0.mk (Kept.below (S := (fun k_ => P1_0_ k_ ∨ P1_1_ k_)) (by repeat (first | (with_reducible first | exact HK.out | apply Kept.alloc | apply Kept.drewN | apply Kept.drew | refine Kept.setCell ?_ (.inr GW140.out) _ | refine Kept.setCell ?_ (.inr GW141.out) _) | exact HK.out)) hb); have n5_ := Aside0.mk (below_step (by repeat (first | (with_reducible first | exact HB.out | apply below_alloc | apply pw_below_drewN | apply below_drew1 | refine below_set ?_ GE140.out | refine below_set ?_ GE141.out) | exact HB.out)) hb); have n6_ := Aside0.mk (hbox); have n7_ := Aside0.mk ((by rw [hg]; exact (by first | exact HK.out.1 | exact (show Kept w _ (fun k_ => P1_0_ k_ ∨ P1_1_ k_) from by repeat (first | (with_reducible first | exact HK.out | apply Kept.alloc | apply Kept.drewN | apply Kept.drew | refine Kept.setCell ?_ (.inr GW140.out) _ | refine Kept.setCell ?_ (.inr GW141.out) _) | exact HK.out)).1) : w.heap.size ≤ gb142)); have n8_ := Aside0.mk ((by rw [hg]; exact (below_size (by repeat (first | (with_reducible first | exact HB.out | apply below_alloc | apply pw_below_drewN | apply below_drew1 | refine below_set ?_ GE140.out | refine below_set ?_ GE141.out) | exact HB.out))) : w0.heap.size ≤ gb142)); have n9_ := Aside0.mk ((by rw [hg]; exact Nat.ne_of_lt (blk_lt (g := gb140) (o := .cells #[.slice A0_0 l0_0.length c0_0] 28 (0, 0)) (by (with_reducible repeat (first | refine blk_drewN ?_ _ | refine blk_drew ?_ | refine blk_alloc ?_ _)); exact BK140.out)) : gb140 ≠ gb142)); have n10_ := Aside0.mk ((by rw [hg]; exact Nat.ne_of_gt (blk_lt (g := gb140) (o := .cells #[.slice A0_0 l0_0.length c0_0] 28 (0, 0)) (by (with_reducible repeat (first | refine blk_drewN ?_ _ | refine blk_drew ?_ | refine blk_alloc ?_ _)); exact BK140.out)) : gb142 ≠ gb140)); have n11_ := Aside0.mk ((by rw [hg]; exact Nat.ne_of_lt (blk_lt (g := gb141) (o := .cells #[.slice Ao4 l1_0.length co4, .slice Ao5 l1_1.length co5, .bool a1_2] 52 (0, 0)) (by (with_reducible repeat (first | refine blk_drewN ?_ _ | refine blk_drew ?_ | refine blk_alloc ?_ _)); exact BK141.out)) : gb141 ≠ gb142)); have n12_ := Aside0.mk ((by rw [hg]; exact Nat.ne_of_gt (blk_lt (g := gb141) (o := .cells #[.slice Ao4 l1_0.length co4, .slice Ao5 l1_1.length co5, .bool a1_2] 52 (0, 0)) (by (with_reducible repeat (first | refine blk_drewN ?_ _ | refine blk_drew ?_ | refine blk_alloc ?_ _)); exact BK141.out)) : gb142 ≠ gb141)); clear HO1_0; clear HO1_1; clear BK140; clear BK141; clear HK; clear HB; have HO1_0 := n0_; have HO1_1 := n1_; have BK140 := n2_; have BK141 := n3_; have HK := n4_; have HB := n5_; have BK142 := n6_; have GW142 := n7_; have GE142 := n8_; have NB140_142 := n9_; have NB142_140 := n10_; have NB141_142 := n11_; have NB142_141 := n12_; clear n0_ n1_ n2_ n3_ n4_ n5_ n6_ n7_ n8_ n9_ n10_ n11_ n12_; clear hb hbox hg; have hnb8 := NB141_140.out; have hnc8 := NB140_141.out; have hnb9 := NB141_142.out; have hnc9 := NB142_141.out; have hcz10_0 : w7.cell? ⟨gb141, 0, none⟩ = some (.slice Ao4 l1_0.length co4) := (blk_cell BK141.out 0).trans rfl; have hcz10_1 : w7.cell? ⟨gb141, 1, none⟩ = some (.slice Ao5 l1_1.length co5) := (blk_cell BK141.out 1).trans rfl; have hcz10_2 : w7.cell? ⟨gb141, 2, none⟩ = some (.bool a1_2) := (blk_cell BK141.out 2).trans rfl; have hfz10_0 := blk_frozen BK141.out 0; have hfz10_1 := blk_frozen BK141.out 1; have hfz10_2 := blk_frozen BK141.out 2))
  go_loopg [5] k (fun kq v5 w' => ∃ (x5_1 : Int) (x142000_1 : List ByteArray) (x142001_1 : List ByteArray) (x142002_1 : Bool) (u142000 : Value) (u142001 : Value), v5 = .int .i64 x5_1 ∧ Aside0 (spec_l3Step.l0 kq x5_1 l0_0 x142000_1 x142001_1 x142002_1 = some (r1, r2, r3)) ∧ Aside0 (kq ≤ k) ∧ Aside0 (Kd.R Kd.string 9 w' w0.heap.size (fun k_ => ((P1_0_ k_ ∨ P1_1_ k_) ∨ w.heap.size ≤ k_) ∧ some k_ ≠ (u142001 : Value).ownBlock) u142000 x142000_1) ∧ Aside0 (Kd.R Kd.string 9 w' w0.heap.size (fun k_ => ((P1_0_ k_ ∨ P1_1_ k_) ∨ w.heap.size ≤ k_) ∧ some k_ ≠ (u142000 : Value).ownBlock) u142001 x142001_1) ∧ Aside0 (w'.heap[gb140]? = some (.cells #[(.slice A0_0 l0_0.length c0_0)] 28 (0, 0))) ∧ Aside0 (w'.heap[gb141]? = some (.cells #[u142000, u142001, .bool x142002_1] 52 (0, 0))) ∧ Aside0 (w'.heap[gb142]? = some (.cells #[(.slice none 0 0), (.slice none 0 0), .bool false] 52 (0, 0))) ∧ Aside0 (Kept w w' (fun k_ => P1_0_ k_ ∨ P1_1_ k_)) ∧ Aside0 (Below w0.heap.size w0 w'))
  case atStart => exact ⟨(0), (l1_0), (l1_1), (false), (.slice Ao4 l1_0.length co4), (.slice Ao5 l1_1.length co5), (by first | rfl | (simp; done) | (simp [*]; done)), H', ⟨Nat.le_refl _⟩, ⟨by (with_reducible repeat (first | apply Kd.R_alloc | apply Kd.R_drewN | apply Kd.R_drew)); exact Kd.R_mono (Kd.R_far (p := ⟨gb141, 2, none⟩) (Kd.R_types HO1_0.out BK141.out (by decide)) (fun _ hk => hk.2) (.bool false)) (fun _ hk => ⟨hk.1.1, hk.1.2⟩)⟩, ⟨by (with_reducible repeat (first | apply Kd.R_alloc | apply Kd.R_drewN | apply Kd.R_drew)); exact Kd.R_mono (Kd.R_far (p := ⟨gb141, 2, none⟩) (Kd.R_types HO1_1.out BK141.out (by decide)) (fun _ hk => hk.2) (.bool false)) (fun _ hk => ⟨hk.1.1, hk.1.2⟩)⟩, ⟨by (with_reducible repeat (first | refine blk_drewN ?_ _ | refine blk_drew ?_ | refine blk_alloc ?_ _)); refine blk_far ?_ NB140_141.out _; (with_reducible repeat (first | refine blk_drewN ?_ _ | refine blk_drew ?_ | refine blk_alloc ?_ _)); exact BK140.out⟩, ⟨by (with_reducible repeat (first | refine blk_drewN ?_ _ | refine blk_drew ?_ | refine blk_alloc ?_ _)); refine blk_put (cs := #[.slice Ao4 l1_0.length co4, .slice Ao5 l1_1.length co5, .bool a1_2]) ?_ 2 _ rfl; (with_reducible repeat (first | refine blk_drewN ?_ _ | refine blk_drew ?_ | refine blk_alloc ?_ _)); exact BK141.out⟩, ⟨by (with_reducible repeat (first | refine blk_drewN ?_ _ | refine blk_drew ?_ | refine blk_alloc ?_ _)); refine blk_far ?_ NB142_141.out _; (with_reducible repeat (first | refine blk_drewN ?_ _ | refine blk_drew ?_ | refine blk_alloc ?_ _)); exact BK142.out⟩, ⟨by repeat (first | (with_reducible first | exact HK.out | apply Kept.alloc | apply Kept.drewN | apply Kept.drew | refine Kept.setCell ?_ (.inr GW140.out) _ | refine Kept.setCell ?_ (.inr GW141.out) _ | refine Kept.setCell ?_ (.inr GW142.out) _) | exact HK.out)⟩, ⟨by repeat (first | (with_reducible first | exact HB.out | apply below_alloc | apply pw_below_drewN | apply below_drew1 | refine below_set ?_ GE140.out | refine below_set ?_ GE141.out | refine below_set ?_ GE142.out) | exact HB.out)⟩⟩
  case round =>
    clear H'
    try clear p1
    try clear p2
    try clear c4
    try clear c8
    try clear c9
    try clear hcz10_0
    try clear hcz10_1
    try clear hcz10_2
    try clear hfz10_0
    try clear hfz10_1
    try clear hfz10_2
    obtain ⟨x5_1, x142000_1, x142001_1, x142002_1, u142000, u142001, rfl, HA, HK1, HO_142000, HO_142001, BK140, BK141, BK142, HK, HB⟩ := hrel
    cases gk with
    | zero => exact absurd HA.out (by simp [spec_l3Step.l0])
    | succ k1 =>
      have H := HA.out
      clear HA
      simp only [spec_l3Step.l0] at H
      by_cases c11 : x5_1 < (x142000_1.length : Int)
      · rw [if_pos c11] at H
        have c11b0 : decide (x5_1 < (x142000_1.length : Int)) = true := decide_eq_true c11
        clear c11
        by_cases c12 : 0 ≤ x5_1
        · rw [if_pos c12] at H
          have c12b0 : decide (0 ≤ x5_1) = true := decide_eq_true c12
          clear c12
          by_cases c13 : x5_1 < (x142001_1.length : Int)
          · rw [if_pos c13] at H
            have c13b0 : decide (x5_1 < (x142001_1.length : Int)) = true := decide_eq_true c13
            clear c13
            have H' := Aside0.mk H
            clear H
            have hnb14 := NB141_140.out
            have hnc14 := NB140_141.out
            have hnb15 := NB141_142.out
            have hnc15 := NB142_141.out
            have hcz16_0 : wr.cell? ⟨gb141, 0, none⟩ = some (u142000) := (blk_cell BK141.out 0).trans rfl
            have hcz16_1 : wr.cell? ⟨gb141, 1, none⟩ = some (u142001) := (blk_cell BK141.out 1).trans rfl
            have hcz16_2 : wr.cell? ⟨gb141, 2, none⟩ = some (.bool x142002_1) := (blk_cell BK141.out 2).trans rfl
            have hfz16_0 := blk_frozen BK141.out 0
            have hfz16_1 := blk_frozen BK141.out 1
            have hfz16_2 := blk_frozen BK141.out 2
            obtain ⟨Ao17, co17, eo17⟩ := Kd.R_slice HO_142000.out
            subst eo17
            try go_wp2
            have n0_ := Aside0.mk (Kd.R_drew HO_142000.out)
            have n1_ := Aside0.mk (Kd.R_drew HO_142001.out)
            have n2_ := Aside0.mk (blk_drew BK140.out)
            have n3_ := Aside0.mk (blk_drew BK141.out)
            have n4_ := Aside0.mk (blk_drew BK142.out)
            have n5_ := Aside0.mk (Kept.drew HK.out)
            have n6_ := Aside0.mk (below_drew1 HB.out)
            clear HO_142000
            clear HO_142001
            clear BK140
            clear BK141
            clear BK142
            clear HK
            clear HB
            have HO_142000 := n0_
            have HO_142001 := n1_
            have BK140 := n2_
            have BK141 := n3_
            have BK142 := n4_
            have HK := n5_
            have HB := n6_
            clear n0_ n1_ n2_ n3_ n4_ n5_ n6_
            have p143 : 0 ≤ (x5_1 : Int) := of_decide_eq_true (by first | (with_reducible assumption) | assumption)
            have q143 : x5_1 < (x142000_1.length : Int) := of_decide_eq_true (by first | (with_reducible assumption) | assumption)
            obtain ⟨ad143, e143, hx143_0⟩ := Kd.at_string (Kd.R_reads' HO_142000.out).2.2 x5_1 p143 q143
            cases e143
            replace p143 := eq_true p143
            replace q143 := eq_true q143
            obtain ⟨Ao19, co19, eo19⟩ := Kd.R_slice HO_142001.out
            (first | subst eo19 | (injection eo19 with f1_ f2_ f3_; have f4_ := f1_.symm; have f5_ := f3_.symm; clear f1_ f2_ f3_; subst f4_; subst f5_))
            have p144 : 0 ≤ (x5_1 : Int) := of_decide_eq_true (by first | (with_reducible assumption) | assumption)
            have q144 : x5_1 < (x142001_1.length : Int) := of_decide_eq_true (by first | (with_reducible assumption) | assumption)
            obtain ⟨ad144, e144, hx144_0⟩ := Kd.at_string (Kd.R_reads' HO_142001.out).2.2 x5_1 p144 q144
            cases e144
            replace p144 := eq_true p144
            replace q144 := eq_true q144
            refine start_ (n := 12) (S := fun w' => w'.cell? ⟨gb141, 0, none⟩ = some (.slice (some ad143) x142000_1.length co17) ∧ w'.cell? ⟨gb141, 1, none⟩ = some (.slice (some ad144) x142001_1.length co19) ∧ w'.cell? ⟨gb141, 2, none⟩ = some (.bool x142002_1) ∧ w'.cell? (ad143.add (x5_1).toNat) = some (.string (rdOf ByteArray.empty x142000_1 x5_1)) ∧ w'.cell? (ad144.add (x5_1).toNat) = some (.string (rdOf ByteArray.empty x142001_1 x5_1))) (ds := []) #[false, false, false, false, false, false, false, false, false, false, false, false] (by kernel_rfl) rfl rfl ⟨(blk_cell BK141.out 0).trans rfl, (blk_cell BK141.out 1).trans rfl, (blk_cell BK141.out 2).trans rfl, hx143_0, hx144_0⟩ (fun hHeld => ?_); refine with_tabW spec_l3Step.tab5 spec_l3Step.bits5 (fun HT_ HW_ => ?_)
            generalize wr.drew = w18 at HO_142000 HO_142001 BK140 BK141 BK142 HK HB hx143_0 hx144_0 hHeld ⊢
            refine pure_ (i := 0) (N := some 17) (v := ?_) (a' := ?_) #[true, false, false, false, false, false, false, false, false, false, false, false] rfl rfl (any_of HT_.out (by kernel_rfl)) (fun _ _ _ h => h) (Or.inl ⟨by rfl, ?_⟩) ?_ ?_
            rotate_left
            · intro w'
              go_simp
              with_reducible rfl
            rotate_left
            · simp only [Act.put, List.setIfInBounds_toArray, List.set_cons_zero, List.set_cons_succ, i64_w, i32_w]
              rfl
            refine pure_ (i := 2) (N := some 19) (v := ?_) (a' := ?_) #[true, false, true, false, false, false, false, false, false, false, false, false] rfl rfl (any_of HT_.out (by kernel_rfl)) (fun _ _ _ h => h) (Or.inl ⟨by rfl, ?_⟩) ?_ ?_
            rotate_left
            · intro w'
              go_simp
              with_reducible rfl
            rotate_left
            · simp only [Act.put, List.setIfInBounds_toArray, List.set_cons_zero, List.set_cons_succ, i64_w, i32_w]
              rfl
            refine pure_ (i := 5) (N := some 22) (v := ?_) (a' := ?_) #[true, false, true, false, false, true, false, false, false, false, false, false] rfl rfl (any_of HT_.out (by kernel_rfl)) (fun _ _ _ h => h) (Or.inl ⟨by rfl, ?_⟩) ?_ ?_
            rotate_left
            · intro w'
              go_simp
              with_reducible rfl
            rotate_left
            · simp only [Act.put, List.setIfInBounds_toArray, List.set_cons_zero, List.set_cons_succ, i64_w, i32_w]
              rfl
            refine pure_ (i := 7) (N := some 24) (v := ?_) (a' := ?_) #[true, false, true, false, false, true, false, true, false, false, false, false] rfl rfl (any_of HT_.out (by kernel_rfl)) (fun _ _ _ h => h) (Or.inl ⟨by rfl, ?_⟩) ?_ ?_
            rotate_left
            · intro w'
              go_simp
              with_reducible rfl
            rotate_left
            · simp only [Act.put, List.setIfInBounds_toArray, List.set_cons_zero, List.set_cons_succ, i64_w, i32_w]
              rfl
            refine take_ (i := 1) (N := some 18) (v := ?_) (a' := ?_) #[true, true, true, false, false, true, false, true, false, false, false, false] rfl rfl (take_ofW HT_.out HW_.out (by kernel_rfl)) (fun _ _ _ h => h) (Or.inl ⟨by rfl, ?_⟩) hHeld ?_ ?_
            rotate_left
            · rintro w' ⟨s0, s1, s2, s3, s4⟩
              go_simp
              with_reducible rfl
            rotate_left
            · simp only [Act.put, List.setIfInBounds_toArray, List.set_cons_zero, List.set_cons_succ, i64_w, i32_w]
              rfl
            refine pure_ (i := 3) (N := some 20) (v := ?_) (a' := ?_) #[true, true, true, true, false, true, false, true, false, false, false, false] rfl rfl (any_of HT_.out (by kernel_rfl)) (fun _ _ _ h => h) (Or.inl ⟨by rfl, ?_⟩) ?_ ?_
            rotate_left
            · intro w'
              go_simp
              with_reducible rfl
            rotate_left
            · simp only [Act.put, List.setIfInBounds_toArray, List.set_cons_zero, List.set_cons_succ, i64_w, i32_w]
              rfl
            refine take_ (i := 4) (N := some 21) (v := ?_) (a' := ?_) #[true, true, true, true, true, true, false, true, false, false, false, false] rfl rfl (take_ofW HT_.out HW_.out (by kernel_rfl)) (fun _ _ _ h => h) (Or.inl ⟨by rfl, ?_⟩) hHeld ?_ ?_
            rotate_left
            · rintro w' ⟨s0, s1, s2, s3, s4⟩
              go_simp
              with_reducible rfl
            rotate_left
            · simp only [Act.put, List.setIfInBounds_toArray, List.set_cons_zero, List.set_cons_succ, i64_w, i32_w]
              rfl
            refine pure_ (i := 10) (N := some 6) (v := ?_) (a' := ?_) #[true, true, true, true, true, true, false, true, false, false, true, false] rfl rfl (any_of HT_.out (by kernel_rfl)) (fun _ _ _ h => h) (Or.inl ⟨by rfl, ?_⟩) ?_ ?_
            rotate_left
            · intro w'
              go_simp
              with_reducible rfl
            rotate_left
            · simp only [Act.put, List.setIfInBounds_toArray, List.set_cons_zero, List.set_cons_succ, i64_w, i32_w]
              rfl
            refine take_ (i := 6) (N := some 23) (v := ?_) (a' := ?_) #[true, true, true, true, true, true, true, true, false, false, true, false] rfl rfl (take_ofW HT_.out HW_.out (by kernel_rfl)) (fun _ _ _ h => h) (Or.inl ⟨by rfl, ?_⟩) hHeld ?_ ?_
            rotate_left
            · rintro w' ⟨s0, s1, s2, s3, s4⟩
              go_simp
              with_reducible rfl
            rotate_left
            · simp only [Act.put, List.setIfInBounds_toArray, List.set_cons_zero, List.set_cons_succ, i64_w, i32_w]
              rfl
            refine pure_ (i := 8) (N := some 25) (v := ?_) (a' := ?_) #[true, true, true, true, true, true, true, true, true, false, true, false] rfl rfl (any_of HT_.out (by kernel_rfl)) (fun _ _ _ h => h) (Or.inl ⟨by rfl, ?_⟩) ?_ ?_
            rotate_left
            · intro w'
              go_simp
              with_reducible rfl
            rotate_left
            · simp only [Act.put, List.setIfInBounds_toArray, List.set_cons_zero, List.set_cons_succ, i64_w, i32_w]
              rfl
            refine take_ (i := 9) (N := some 26) (v := ?_) (a' := ?_) #[true, true, true, true, true, true, true, true, true, true, true, false] rfl rfl (take_ofW HT_.out HW_.out (by kernel_rfl)) (fun _ _ _ h => h) (Or.inl ⟨by rfl, ?_⟩) hHeld ?_ ?_
            rotate_left
            · rintro w' ⟨s0, s1, s2, s3, s4⟩
              go_simp
              with_reducible rfl
            rotate_left
            · simp only [Act.put, List.setIfInBounds_toArray, List.set_cons_zero, List.set_cons_succ, i64_w, i32_w]
              rfl
            refine pure_ (i := 11) (N := some 7) (v := ?_) (a' := ?_) #[true, true, true, true, true, true, true, true, true, true, true, true] rfl rfl (any_of HT_.out (by kernel_rfl)) (fun _ _ _ h => h) (Or.inl ⟨by rfl, ?_⟩) ?_ ?_
            rotate_left
            · intro w'
              go_simp
              with_reducible rfl
            rotate_left
            · simp only [Act.put, List.setIfInBounds_toArray, List.set_cons_zero, List.set_cons_succ, i64_w, i32_w]
              rfl
            refine done_ (done_of HT_.out (by kernel_rfl)) ?_
            try go_wp2
            go_loopg [8] k1 (fun kq v8 w' => ∃ (x8_2 : Int) (x142000_2 : List ByteArray) (x142001_2 : List ByteArray) (x142002_2 : Bool) (u142000 : Value) (u142001 : Value), v8 = .int .i64 x8_2 ∧ Aside0 (spec_l3Step.l1 kq x5_1 (rdOf ByteArray.empty x142000_1 x5_1) (rdOf ByteArray.empty x142001_1 x5_1) x8_2 l0_0 x142000_2 x142001_2 x142002_2 = some (r1, r2, r3)) ∧ Aside0 (kq ≤ k1) ∧ Aside0 (Kd.R Kd.string 9 w' w0.heap.size (fun k_ => ((P1_0_ k_ ∨ P1_1_ k_) ∨ w.heap.size ≤ k_) ∧ some k_ ≠ (u142001 : Value).ownBlock) u142000 x142000_2) ∧ Aside0 (Kd.R Kd.string 9 w' w0.heap.size (fun k_ => ((P1_0_ k_ ∨ P1_1_ k_) ∨ w.heap.size ≤ k_) ∧ some k_ ≠ (u142000 : Value).ownBlock) u142001 x142001_2) ∧ Aside0 (w'.heap[gb140]? = some (.cells #[(.slice A0_0 l0_0.length c0_0)] 28 (0, 0))) ∧ Aside0 (w'.heap[gb141]? = some (.cells #[u142000, u142001, .bool x142002_2] 52 (0, 0))) ∧ Aside0 (w'.heap[gb142]? = some (.cells #[(.slice none 0 0), (.slice none 0 0), .bool false] 52 (0, 0))) ∧ Aside0 (Kept w w' (fun k_ => P1_0_ k_ ∨ P1_1_ k_)) ∧ Aside0 (Below w0.heap.size w0 w'))
            case atStart => exact ⟨(0), (x142000_1), (x142001_1), (x142002_1), (.slice (some ad143) x142000_1.length co17), (.slice (some ad144) x142001_1.length co19), (by first | rfl | (simp; done) | (simp [*]; done)), H', ⟨Nat.le_refl _⟩, ⟨by (with_reducible repeat (first | apply Kd.R_alloc | apply Kd.R_drewN | apply Kd.R_drew)); exact HO_142000.out⟩, ⟨by (with_reducible repeat (first | apply Kd.R_alloc | apply Kd.R_drewN | apply Kd.R_drew)); exact HO_142001.out⟩, ⟨by (with_reducible repeat (first | refine blk_drewN ?_ _ | refine blk_drew ?_ | refine blk_alloc ?_ _)); exact BK140.out⟩, ⟨by (with_reducible repeat (first | refine blk_drewN ?_ _ | refine blk_drew ?_ | refine blk_alloc ?_ _)); exact BK141.out⟩, ⟨by (with_reducible repeat (first | refine blk_drewN ?_ _ | refine blk_drew ?_ | refine blk_alloc ?_ _)); exact BK142.out⟩, ⟨by repeat (first | (with_reducible first | exact HK.out | apply Kept.alloc | apply Kept.drewN | apply Kept.drew | refine Kept.setCell ?_ (.inr GW140.out) _ | refine Kept.setCell ?_ (.inr GW141.out) _ | refine Kept.setCell ?_ (.inr GW142.out) _) | exact HK.out)⟩, ⟨by repeat (first | (with_reducible first | exact HB.out | apply below_alloc | apply pw_below_drewN | apply below_drew1 | refine below_set ?_ GE140.out | refine below_set ?_ GE141.out | refine below_set ?_ GE142.out) | exact HB.out)⟩⟩
            case round =>
              clear H'
              try clear c1
              try clear p1
              try clear q1
              try clear hx1
              try clear p2
              try clear c4
              try clear c8
              try clear c9
              try clear c11
              try clear c11b0
              try clear c12
              try clear c12b0
              try clear c13
              try clear c13b0
              try clear c14
              try clear p14
              try clear q14
              try clear hx14
              try clear c15
              try clear hcz10_0
              try clear hcz10_1
              try clear hcz10_2
              try clear hcz16_0
              try clear hcz16_1
              try clear hcz16_2
              try clear hfz10_0
              try clear hfz10_1
              try clear hfz10_2
              try clear hfz16_0
              try clear hfz16_1
              try clear hfz16_2
              try clear hx143_0
              try clear hx144_0
              try clear p1
              try clear p143
              try clear p144
              try clear p2
              try clear q143
              try clear q144
              obtain ⟨x8_2, x142000_2, x142001_2, x142002_2, u142000, u142001, rfl, HA, HK2, HO_142000, HO_142001, BK140, BK141, BK142, HK, HB⟩ := hrel
              cases gk with
              | zero => exact absurd HA.out (by simp [spec_l3Step.l1])
              | succ k2 =>
                have H := HA.out
                clear HA
                simp only [spec_l3Step.l1] at H
                have HC20 := Aside0.mk H
                clear H
                go_upto_region 7 with (fail)
                go_cut [35] (fun v35 wc => ∃ (kq : Nat) (x35_19 : Bool), v35 = .bool x35_19 ∧ Aside0 (spec_l3Step.j2 kq x5_1 (rdOf ByteArray.empty x142000_1 x5_1) (rdOf ByteArray.empty x142001_1 x5_1) x8_2 x35_19 l0_0 x142000_2 x142001_2 x142002_2 = some (r1, r2, r3)) ∧ Aside0 (kq ≤ k2) ∧ Aside0 (Kd.R Kd.string 9 wc w0.heap.size (fun k_ => ((P1_0_ k_ ∨ P1_1_ k_) ∨ w.heap.size ≤ k_) ∧ some k_ ≠ (u142001 : Value).ownBlock) u142000 x142000_2) ∧ Aside0 (Kd.R Kd.string 9 wc w0.heap.size (fun k_ => ((P1_0_ k_ ∨ P1_1_ k_) ∨ w.heap.size ≤ k_) ∧ some k_ ≠ (u142000 : Value).ownBlock) u142001 x142001_2) ∧ Aside0 (wc.heap[gb140]? = some (.cells #[(.slice A0_0 l0_0.length c0_0)] 28 (0, 0))) ∧ Aside0 (wc.heap[gb141]? = some (.cells #[u142000, u142001, .bool x142002_2] 52 (0, 0))) ∧ Aside0 (wc.heap[gb142]? = some (.cells #[(.slice none 0 0), (.slice none 0 0), .bool false] 52 (0, 0))) ∧ Aside0 (Kept w wc (fun k_ => P1_0_ k_ ∨ P1_1_ k_)) ∧ Aside0 (Below w0.heap.size w0 wc))
                case first =>
                  have H := HC20.out
                  clear HC20
                  by_cases c21 : x8_2 < (l0_0.length : Int)
                  · rw [if_pos c21] at H
                    have c21b0 : decide (x8_2 < (l0_0.length : Int)) = true := decide_eq_true c21
                    clear c21
                    (first | rw [c21b0] | (simp only [i64_w, i32_w]; rw [c21b0]) | skip)
                    have H' := Aside0.mk H
                    clear H
                    have hnb22 := NB140_141.out
                    have hnc22 := NB141_140.out
                    have hnb23 := NB140_142.out
                    have hnc23 := NB142_140.out
                    have hcz24_0 : wr.cell? ⟨gb140, 0, none⟩ = some (.slice A0_0 l0_0.length c0_0) := (blk_cell BK140.out 0).trans rfl
                    have hfz24_0 := blk_frozen BK140.out 0
                    go_wp2
                    go_meet
                    case rel => exact ⟨_, (((rdOf ByteArray.empty x142000_1 x5_1).toList != ([] : List UInt8))), (by first | rfl | (simp; done) | (simp [*]; done) | (simp; exact nilne_ _) | (simp [*]; exact nilne_ _)), H', ⟨by have := HK1.out; have := HK2.out; first | omega | exact Nat.le_refl _⟩, ⟨by (with_reducible repeat (first | apply Kd.R_alloc | apply Kd.R_drewN | apply Kd.R_drew)); exact HO_142000.out⟩, ⟨by (with_reducible repeat (first | apply Kd.R_alloc | apply Kd.R_drewN | apply Kd.R_drew)); exact HO_142001.out⟩, ⟨by (with_reducible repeat (first | refine blk_drewN ?_ _ | refine blk_drew ?_ | refine blk_alloc ?_ _)); exact BK140.out⟩, ⟨by (with_reducible repeat (first | refine blk_drewN ?_ _ | refine blk_drew ?_ | refine blk_alloc ?_ _)); exact BK141.out⟩, ⟨by (with_reducible repeat (first | refine blk_drewN ?_ _ | refine blk_drew ?_ | refine blk_alloc ?_ _)); exact BK142.out⟩, ⟨by repeat (first | (with_reducible first | exact HK.out | apply Kept.alloc | apply Kept.drewN | apply Kept.drew | refine Kept.setCell ?_ (.inr GW140.out) _ | refine Kept.setCell ?_ (.inr GW141.out) _ | refine Kept.setCell ?_ (.inr GW142.out) _) | exact HK.out)⟩, ⟨by repeat (first | (with_reducible first | exact HB.out | apply below_alloc | apply pw_below_drewN | apply below_drew1 | refine below_set ?_ GE140.out | refine below_set ?_ GE141.out | refine below_set ?_ GE142.out) | exact HB.out)⟩⟩
                  · rw [if_neg c21] at H
                    have c21b0 : decide (x8_2 < (l0_0.length : Int)) = false := decide_eq_false c21
                    clear c21
                    (first | rw [c21b0] | (simp only [i64_w, i32_w]; rw [c21b0]) | skip)
                    have H' := Aside0.mk H
                    clear H
                    have hnb25 := NB140_141.out
                    have hnc25 := NB141_140.out
                    have hnb26 := NB140_142.out
                    have hnc26 := NB142_140.out
                    have hcz27_0 : wr.cell? ⟨gb140, 0, none⟩ = some (.slice A0_0 l0_0.length c0_0) := (blk_cell BK140.out 0).trans rfl
                    have hfz27_0 := blk_frozen BK140.out 0
                    go_wp2
                    go_meet
                    case rel => exact ⟨_, (false), (by first | rfl | (simp; done) | (simp [*]; done)), H', ⟨by have := HK1.out; have := HK2.out; first | omega | exact Nat.le_refl _⟩, ⟨by (with_reducible repeat (first | apply Kd.R_alloc | apply Kd.R_drewN | apply Kd.R_drew)); exact HO_142000.out⟩, ⟨by (with_reducible repeat (first | apply Kd.R_alloc | apply Kd.R_drewN | apply Kd.R_drew)); exact HO_142001.out⟩, ⟨by (with_reducible repeat (first | refine blk_drewN ?_ _ | refine blk_drew ?_ | refine blk_alloc ?_ _)); exact BK140.out⟩, ⟨by (with_reducible repeat (first | refine blk_drewN ?_ _ | refine blk_drew ?_ | refine blk_alloc ?_ _)); exact BK141.out⟩, ⟨by (with_reducible repeat (first | refine blk_drewN ?_ _ | refine blk_drew ?_ | refine blk_alloc ?_ _)); exact BK142.out⟩, ⟨by repeat (first | (with_reducible first | exact HK.out | apply Kept.alloc | apply Kept.drewN | apply Kept.drew | refine Kept.setCell ?_ (.inr GW140.out) _ | refine Kept.setCell ?_ (.inr GW141.out) _ | refine Kept.setCell ?_ (.inr GW142.out) _) | exact HK.out)⟩, ⟨by repeat (first | (with_reducible first | exact HB.out | apply below_alloc | apply pw_below_drewN | apply below_drew1 | refine below_set ?_ GE140.out | refine below_set ?_ GE141.out | refine below_set ?_ GE142.out) | exact HB.out)⟩⟩
                case rest =>
                  clear HC20
                  try clear c1
                  try clear p1
                  try clear q1
                  try clear hx1
                  try clear c2
                  try clear p2
                  try clear c4
                  try clear c8
                  try clear c9
                  try clear c11
                  try clear c11b0
                  try clear c12
                  try clear c12b0
                  try clear c13
                  try clear c13b0
                  try clear c14
                  try clear p14
                  try clear q14
                  try clear hx14
                  try clear c15
                  try clear c21
                  try clear c21b0
                  try clear c22
                  try clear c23
                  try clear c25
                  try clear c26
                  try clear hcz10_0
                  try clear hcz10_1
                  try clear hcz10_2
                  try clear hcz16_0
                  try clear hcz16_1
                  try clear hcz16_2
                  try clear hcz24_0
                  try clear hcz27_0
                  try clear hfz10_0
                  try clear hfz10_1
                  try clear hfz10_2
                  try clear hfz16_0
                  try clear hfz16_1
                  try clear hfz16_2
                  try clear hfz24_0
                  try clear hfz27_0
                  try clear hx143_0
                  try clear hx144_0
                  try clear p1
                  try clear p14
                  try clear p143
                  try clear p144
                  try clear p2
                  try clear q1
                  try clear q14
                  try clear q143
                  try clear q144
                  obtain ⟨kq, x35_19, rfl, HA, HJ19, HO_142000, HO_142001, BK140, BK141, BK142, HK, HB⟩ := hcut
                  cases kq with
                  | zero => exact absurd HA.out (by simp [spec_l3Step.j2])
                  | succ kj19 =>
                    have H := HA.out
                    clear HA
                    simp only [spec_l3Step.j2] at H
                    by_cases c28 : x35_19 = true
                    · subst c28
                      have H1 : (if 0 ≤ x8_2 then (if x8_2 < (l0_0.length : Int) then ((spec_l3Begins.f (rdOf ByteArray.empty x142000_1 x5_1) (rdOf ByteArray.empty l0_0 x8_2)).bind fun t146 => (if t146 = true then (if 0 ≤ ((rdOf ByteArray.empty l0_0 x8_2).size : Int) then (if ((rdOf ByteArray.empty l0_0 x8_2).size : Int) ≤ ((rdOf ByteArray.empty x142000_1 x5_1).size : Int) then ((spec_l3Put.f kj19 x142000_2 x142001_2 x142002_2 ((rdOf ByteArray.empty x142000_1 x5_1).extract (((rdOf ByteArray.empty l0_0 x8_2).size : Int) : Int).toNat (rdOf ByteArray.empty x142000_1 x5_1).size) (rdOf ByteArray.empty x142001_1 x5_1)).bind fun bt148 => (spec_l3Step.l1 kj19 x5_1 (rdOf ByteArray.empty x142000_1 x5_1) (rdOf ByteArray.empty x142001_1 x5_1) (wrap64 (x8_2 + 1)) l0_0 bt148.1 bt148.2.1 bt148.2.2)) else (none)) else (none)) else ((spec_l3Begins.f (rdOf ByteArray.empty l0_0 x8_2) (rdOf ByteArray.empty x142000_1 x5_1)).bind fun t156 => (if t156 = true then (if 0 ≤ ((rdOf ByteArray.empty x142000_1 x5_1).size : Int) then (if ((rdOf ByteArray.empty x142000_1 x5_1).size : Int) ≤ ((rdOf ByteArray.empty l0_0 x8_2).size : Int) then (if (rdOf ByteArray.empty x142001_1 x5_1).size + ((rdOf ByteArray.empty l0_0 x8_2).extract (((rdOf ByteArray.empty x142000_1 x5_1).size : Int) : Int).toNat (rdOf ByteArray.empty l0_0 x8_2).size).size ≤ 9223372036854775807 then ((spec_l3Put.f kj19 x142000_2 x142001_2 x142002_2 ((rdOf ByteArray.empty l0_0 x8_2).extract (((rdOf ByteArray.empty x142000_1 x5_1).size : Int) : Int).toNat (rdOf ByteArray.empty l0_0 x8_2).size) ((rdOf ByteArray.empty x142001_1 x5_1) ++ ((rdOf ByteArray.empty l0_0 x8_2).extract (((rdOf ByteArray.empty x142000_1 x5_1).size : Int) : Int).toNat (rdOf ByteArray.empty l0_0 x8_2).size))).bind fun bt159 => (spec_l3Step.l1 kj19 x5_1 (rdOf ByteArray.empty x142000_1 x5_1) (rdOf ByteArray.empty x142001_1 x5_1) (wrap64 (x8_2 + 1)) l0_0 bt159.1 bt159.2.1 bt159.2.2)) else (none)) else (none)) else (none)) else (spec_l3Step.l1 kj19 x5_1 (rdOf ByteArray.empty x142000_1 x5_1) (rdOf ByteArray.empty x142001_1 x5_1) (wrap64 (x8_2 + 1)) l0_0 x142000_2 x142001_2 x142002_2))))) else (none)) else (none)) = some (r1, r2, r3) := by rw [if_pos rfl] at H; exact H
                      clear H
                      have H := H1
                      clear H1
                      by_cases c29 : 0 ≤ x8_2
                      · rw [if_pos c29] at H
                        have c29b0 : decide (0 ≤ x8_2) = true := decide_eq_true c29
                        clear c29
                        by_cases c30 : x8_2 < (l0_0.length : Int)
                        · rw [if_pos c30] at H
                          have c30b0 : decide (x8_2 < (l0_0.length : Int)) = true := decide_eq_true c30
                          clear c30
                          replace H := Option.bind_eq_some_iff.mp H
                          obtain ⟨t146, A310, H⟩ := H
                          replace H : (if t146 = true then (if 0 ≤ ((rdOf ByteArray.empty l0_0 x8_2).size : Int) then (if ((rdOf ByteArray.empty l0_0 x8_2).size : Int) ≤ ((rdOf ByteArray.empty x142000_1 x5_1).size : Int) then ((spec_l3Put.f kj19 x142000_2 x142001_2 x142002_2 ((rdOf ByteArray.empty x142000_1 x5_1).extract (((rdOf ByteArray.empty l0_0 x8_2).size : Int) : Int).toNat (rdOf ByteArray.empty x142000_1 x5_1).size) (rdOf ByteArray.empty x142001_1 x5_1)).bind fun bt148 => (spec_l3Step.l1 kj19 x5_1 (rdOf ByteArray.empty x142000_1 x5_1) (rdOf ByteArray.empty x142001_1 x5_1) (wrap64 (x8_2 + 1)) l0_0 bt148.1 bt148.2.1 bt148.2.2)) else (none)) else (none)) else ((spec_l3Begins.f (rdOf ByteArray.empty l0_0 x8_2) (rdOf ByteArray.empty x142000_1 x5_1)).bind fun t156 => (if t156 = true then (if 0 ≤ ((rdOf ByteArray.empty x142000_1 x5_1).size : Int) then (if ((rdOf ByteArray.empty x142000_1 x5_1).size : Int) ≤ ((rdOf ByteArray.empty l0_0 x8_2).size : Int) then (if (rdOf ByteArray.empty x142001_1 x5_1).size + ((rdOf ByteArray.empty l0_0 x8_2).extract (((rdOf ByteArray.empty x142000_1 x5_1).size : Int) : Int).toNat (rdOf ByteArray.empty l0_0 x8_2).size).size ≤ 9223372036854775807 then ((spec_l3Put.f kj19 x142000_2 x142001_2 x142002_2 ((rdOf ByteArray.empty l0_0 x8_2).extract (((rdOf ByteArray.empty x142000_1 x5_1).size : Int) : Int).toNat (rdOf ByteArray.empty l0_0 x8_2).size) ((rdOf ByteArray.empty x142001_1 x5_1) ++ ((rdOf ByteArray.empty l0_0 x8_2).extract (((rdOf ByteArray.empty x142000_1 x5_1).size : Int) : Int).toNat (rdOf ByteArray.empty l0_0 x8_2).size))).bind fun bt159 => (spec_l3Step.l1 kj19 x5_1 (rdOf ByteArray.empty x142000_1 x5_1) (rdOf ByteArray.empty x142001_1 x5_1) (wrap64 (x8_2 + 1)) l0_0 bt159.1 bt159.2.1 bt159.2.2)) else (none)) else (none)) else (none)) else (spec_l3Step.l1 kj19 x5_1 (rdOf ByteArray.empty x142000_1 x5_1) (rdOf ByteArray.empty x142001_1 x5_1) (wrap64 (x8_2 + 1)) l0_0 x142000_2 x142001_2 x142002_2)))) = some (r1, r2, r3) := H
                          have A31 := Aside0.mk A310
                          clear A310
                          by_cases c32 : t146 = true
                          · subst c32
                            have H1 : (if 0 ≤ ((rdOf ByteArray.empty l0_0 x8_2).size : Int) then (if ((rdOf ByteArray.empty l0_0 x8_2).size : Int) ≤ ((rdOf ByteArray.empty x142000_1 x5_1).size : Int) then ((spec_l3Put.f kj19 x142000_2 x142001_2 x142002_2 ((rdOf ByteArray.empty x142000_1 x5_1).extract (((rdOf ByteArray.empty l0_0 x8_2).size : Int) : Int).toNat (rdOf ByteArray.empty x142000_1 x5_1).size) (rdOf ByteArray.empty x142001_1 x5_1)).bind fun bt148 => (spec_l3Step.l1 kj19 x5_1 (rdOf ByteArray.empty x142000_1 x5_1) (rdOf ByteArray.empty x142001_1 x5_1) (wrap64 (x8_2 + 1)) l0_0 bt148.1 bt148.2.1 bt148.2.2)) else (none)) else (none)) = some (r1, r2, r3) := by rw [if_pos rfl] at H; exact H
                            clear H
                            have H := H1
                            clear H1
                            by_cases c33 : 0 ≤ ((rdOf ByteArray.empty l0_0 x8_2).size : Int)
                            · rw [if_pos c33] at H
                              have c33b0 := eq_true c33
                              have c33b1 : decide (0 ≤ ((rdOf ByteArray.empty l0_0 x8_2).size : Int)) = true := decide_eq_true c33
                              clear c33
                              by_cases c34 : ((rdOf ByteArray.empty l0_0 x8_2).size : Int) ≤ ((rdOf ByteArray.empty x142000_1 x5_1).size : Int)
                              · rw [if_pos c34] at H
                                have c34b0 := eq_true c34
                                have c34b1 : decide (((rdOf ByteArray.empty l0_0 x8_2).size : Int) ≤ ((rdOf ByteArray.empty x142000_1 x5_1).size : Int)) = true := decide_eq_true c34
                                clear c34
                                replace H := Option.bind_eq_some_iff.mp H
                                obtain ⟨⟨t148, t151, t154⟩, A350, H⟩ := H
                                replace H : (spec_l3Step.l1 kj19 x5_1 (rdOf ByteArray.empty x142000_1 x5_1) (rdOf ByteArray.empty x142001_1 x5_1) (wrap64 (x8_2 + 1)) l0_0 t148 t151 t154) = some (r1, r2, r3) := H
                                have A35 := Aside0.mk A350
                                clear A350
                                have H' := Aside0.mk H
                                clear H
                                have hnb36 := NB140_141.out
                                have hnc36 := NB141_140.out
                                have hnb37 := NB140_142.out
                                have hnc37 := NB142_140.out
                                have hcz38_0 : wc.cell? ⟨gb140, 0, none⟩ = some (.slice A0_0 l0_0.length c0_0) := (blk_cell BK140.out 0).trans rfl
                                have hfz38_0 := blk_frozen BK140.out 0
                                have p145 : 0 ≤ (x8_2 : Int) := of_decide_eq_true (by first | (with_reducible assumption) | assumption)
                                have q145 : x8_2 < (l0_0.length : Int) := of_decide_eq_true (by first | (with_reducible assumption) | assumption)
                                obtain ⟨ad145, e145, hx145_0⟩ := Kd.at_string (Kd.C_kept_now HR0_0.out HK.out) x8_2 p145 q145
                                cases e145
                                replace p145 := eq_true p145
                                replace q145 := eq_true q145
                                try go_wp2_with (first | ((with_reducible refine gate_callee (f := 41) rfl ?_); refine goesL_ (some 44) rfl rfl Tryz.func41 (by kernel_rfl) rfl #[.string (rdOf ByteArray.empty x142000_1 x5_1), .string (rdOf ByteArray.empty l0_0 x8_2)] rfl (by (try simp only [List.map_toArray, List.map_cons, List.map_nil]); first | done | rfl | (simp only [List.length_drop, List.length_take]; rfl)) ?_; (with_reducible refine (spec_l3Begins.calls (rdOf ByteArray.empty x142000_1 x5_1) (rdOf ByteArray.empty l0_0 x8_2) true _ A31.out).mono ?_); rintro e w' ⟨rfl, ⟨nd, rfl⟩⟩; refine ⟨_, rfl, ?_⟩; (try (rw [drewN_self wc]; generalize hq_ : World.drewN wc _ = wc; have n0_ : Aside0 (Kd.R Kd.string 9 wc w0.heap.size (fun k_ => ((P1_0_ k_ ∨ P1_1_ k_) ∨ w.heap.size ≤ k_) ∧ some k_ ≠ (u142001 : Value).ownBlock) u142000 x142000_2) := ⟨by rw [← hq_]; exact (by (with_reducible repeat (first | apply Kd.R_alloc | apply Kd.R_drewN | apply Kd.R_drew)); exact HO_142000.out)⟩; have n1_ : Aside0 (Kd.R Kd.string 9 wc w0.heap.size (fun k_ => ((P1_0_ k_ ∨ P1_1_ k_) ∨ w.heap.size ≤ k_) ∧ some k_ ≠ (u142000 : Value).ownBlock) u142001 x142001_2) := ⟨by rw [← hq_]; exact (by (with_reducible repeat (first | apply Kd.R_alloc | apply Kd.R_drewN | apply Kd.R_drew)); exact HO_142001.out)⟩; have n2_ : Aside0 (wc.heap[gb140]? = some (.cells #[.slice (some ad145) l0_0.length c0_0] 28 (0, 0))) := ⟨by rw [← hq_]; exact (by (with_reducible repeat (first | refine blk_drewN ?_ _ | refine blk_drew ?_ | refine blk_alloc ?_ _)); exact BK140.out)⟩; have n3_ : Aside0 (wc.heap[gb141]? = some (.cells #[u142000, u142001, .bool x142002_2] 52 (0, 0))) := ⟨by rw [← hq_]; exact (by (with_reducible repeat (first | refine blk_drewN ?_ _ | refine blk_drew ?_ | refine blk_alloc ?_ _)); exact BK141.out)⟩; have n4_ : Aside0 (wc.heap[gb142]? = some (.cells #[.slice none 0 0, .slice none 0 0, .bool false] 52 (0, 0))) := ⟨by rw [← hq_]; exact (by (with_reducible repeat (first | refine blk_drewN ?_ _ | refine blk_drew ?_ | refine blk_alloc ?_ _)); exact BK142.out)⟩; have n5_ : Aside0 (Kept w wc (fun k_ => P1_0_ k_ ∨ P1_1_ k_)) := ⟨by rw [← hq_]; exact (by repeat (first | (with_reducible first | exact HK.out | apply Kept.alloc | apply Kept.drewN | apply Kept.drew | refine Kept.setCell ?_ (.inr GW140.out) _ | refine Kept.setCell ?_ (.inr GW141.out) _ | refine Kept.setCell ?_ (.inr GW142.out) _) | exact HK.out))⟩; have n6_ : Aside0 (Below w0.heap.size w0 wc) := ⟨by rw [← hq_]; exact (by repeat (first | (with_reducible first | exact HB.out | apply below_alloc | apply pw_below_drewN | apply below_drew1 | refine below_set ?_ GE140.out | refine below_set ?_ GE141.out | refine below_set ?_ GE142.out) | exact HB.out))⟩; clear HO_142000 HO_142001 BK140 BK141 BK142 HK HB hq_; have HO_142000 := n0_; have HO_142001 := n1_; have BK140 := n2_; have BK141 := n3_; have BK142 := n4_; have HK := n5_; have HB := n6_; clear n0_ n1_ n2_ n3_ n4_ n5_ n6_)); (try have hczd_140_0 : wc.cell? ⟨gb140, 0, none⟩ = some (.slice (some ad145) l0_0.length c0_0) := (blk_cell BK140.out 0).trans rfl); (try have hfzd_140_0 := blk_frozen BK140.out 0); (try have hczd_141_0 : wc.cell? ⟨gb141, 0, none⟩ = some (u142000) := (blk_cell BK141.out 0).trans rfl); (try have hfzd_141_0 := blk_frozen BK141.out 0); (try have hczd_141_1 : wc.cell? ⟨gb141, 1, none⟩ = some (u142001) := (blk_cell BK141.out 1).trans rfl); (try have hfzd_141_1 := blk_frozen BK141.out 1); (try have hczd_141_2 : wc.cell? ⟨gb141, 2, none⟩ = some (.bool x142002_2) := (blk_cell BK141.out 2).trans rfl); (try have hfzd_141_2 := blk_frozen BK141.out 2); (try have hczd_142_0 : wc.cell? ⟨gb142, 0, none⟩ = some (.slice none 0 0) := (blk_cell BK142.out 0).trans rfl); (try have hfzd_142_0 := blk_frozen BK142.out 0); (try have hczd_142_1 : wc.cell? ⟨gb142, 1, none⟩ = some (.slice none 0 0) := (blk_cell BK142.out 1).trans rfl); (try have hfzd_142_1 := blk_frozen BK142.out 1); (try have hczd_142_2 : wc.cell? ⟨gb142, 2, none⟩ = some (.bool false) := (blk_cell BK142.out 2).trans rfl); (try have hfzd_142_2 := blk_frozen BK142.out 2)))
                                have n0_ := Aside0.mk (Kd.R_drew HO_142000.out)
                                have n1_ := Aside0.mk (Kd.R_drew HO_142001.out)
                                have n2_ := Aside0.mk (blk_drew BK140.out)
                                have n3_ := Aside0.mk (blk_drew BK141.out)
                                have n4_ := Aside0.mk (blk_drew BK142.out)
                                have n5_ := Aside0.mk (Kept.drew HK.out)
                                have n6_ := Aside0.mk (below_drew1 HB.out)
                                clear HO_142000
                                clear HO_142001
                                clear BK140
                                clear BK141
                                clear BK142
                                clear HK
                                clear HB
                                have HO_142000 := n0_
                                have HO_142001 := n1_
                                have BK140 := n2_
                                have BK141 := n3_
                                have BK142 := n4_
                                have HK := n5_
                                have HB := n6_
                                clear n0_ n1_ n2_ n3_ n4_ n5_ n6_
                                have p147 : 0 ≤ (x8_2 : Int) := of_decide_eq_true (by first | (with_reducible assumption) | assumption)
                                have q147 : x8_2 < (l0_0.length : Int) := of_decide_eq_true (by first | (with_reducible assumption) | assumption)
                                obtain ⟨ad147, e147, hx147_0⟩ := Kd.at_string (Kd.C_kept_now HR0_0.out HK.out) x8_2 p147 q147
                                have hw147_0 := hx147_0
                                obtain rfl : ad145 = ad147 := (by injection e147)
                                replace p147 := eq_true p147
                                replace q147 := eq_true q147
                                obtain ⟨Ao40, co40, eo40⟩ := Kd.R_slice HO_142000.out
                                (first | subst eo40 | (injection eo40 with f1_ f2_ f3_; have f4_ := f1_.symm; have f5_ := f3_.symm; clear f1_ f2_ f3_; subst f4_; subst f5_))
                                obtain ⟨Ao41, co41, eo41⟩ := Kd.R_slice HO_142001.out
                                (first | subst eo41 | (injection eo41 with f1_ f2_ f3_; have f4_ := f1_.symm; have f5_ := f3_.symm; clear f1_ f2_ f3_; subst f4_; subst f5_))
                                refine start_ (n := 12) (S := fun w' => w'.cell? ⟨gb141, 0, none⟩ = some (.slice Ao40 x142000_2.length co40) ∧ w'.cell? ⟨gb141, 1, none⟩ = some (.slice Ao41 x142001_2.length co41) ∧ w'.cell? ⟨gb141, 2, none⟩ = some (.bool x142002_2) ∧ w'.cell? ⟨gb140, 0, none⟩ = some (.slice (some ad145) l0_0.length c0_0) ∧ w'.cell? (ad145.add (x8_2).toNat) = some (.string (rdOf ByteArray.empty l0_0 x8_2))) (ds := [11]) #[false, false, false, false, false, false, false, false, false, false, false, false] (by kernel_rfl) rfl rfl ⟨(blk_cell BK141.out 0).trans rfl, (blk_cell BK141.out 1).trans rfl, (blk_cell BK141.out 2).trans rfl, (blk_cell BK140.out 0).trans rfl, (Kd.foot_string (HR0_0.out _ (by repeat (first | exact HK.out | apply Kept.alloc | apply Kept.drewN | apply Kept.drew | refine Kept.setCell ?_ (.inr GW141.out) _ | refine Kept.setCell ?_ (.inr GW141.out) _ | refine Kept.setCell ?_ (.inr GW141.out) _))) x8_2 (of_eq_true p147) (of_eq_true q147))⟩ (fun hHeld => ?_); refine with_tabW spec_l3Step.tab10 spec_l3Step.bits10 (fun HT_ HW_ => ?_)
                                generalize wc.drew = w39 at HO_142000 HO_142001 BK140 BK141 BK142 HK HB hx147_0 hHeld ⊢
                                refine pure_ (i := 1) (N := some 46) (v := ?_) (a' := ?_) #[false, true, false, false, false, false, false, false, false, false, false, false] rfl rfl (any_of HT_.out (by kernel_rfl)) (fun _ _ _ h => h) (Or.inl ⟨by rfl, ?_⟩) ?_ ?_
                                rotate_left
                                · intro w'
                                  go_simp
                                  with_reducible rfl
                                rotate_left
                                · simp only [Act.put, List.setIfInBounds_toArray, List.set_cons_zero, List.set_cons_succ, i64_w, i32_w]
                                  rfl
                                refine pure_ (i := 2) (N := some 47) (v := ?_) (a' := ?_) #[false, true, true, false, false, false, false, false, false, false, false, false] rfl rfl (any_of HT_.out (by kernel_rfl)) (fun _ _ _ h => h) (Or.inl ⟨by rfl, ?_⟩) ?_ ?_
                                rotate_left
                                · intro w'
                                  go_simp
                                  with_reducible rfl
                                rotate_left
                                · simp only [Act.put, List.setIfInBounds_toArray, List.set_cons_zero, List.set_cons_succ, i64_w, i32_w]
                                  rfl
                                refine pure_ (i := 4) (N := some 49) (v := ?_) (a' := ?_) #[false, true, true, false, true, false, false, false, false, false, false, false] rfl rfl (any_of HT_.out (by kernel_rfl)) (fun _ _ _ h => h) (Or.inl ⟨by rfl, ?_⟩) ?_ ?_
                                rotate_left
                                · intro w'
                                  go_simp
                                  with_reducible rfl
                                rotate_left
                                · simp only [Act.put, List.setIfInBounds_toArray, List.set_cons_zero, List.set_cons_succ, i64_w, i32_w]
                                  rfl
                                refine pure_ (i := 9) (N := some 54) (v := ?_) (a' := ?_) #[false, true, true, false, true, false, false, false, false, true, false, false] rfl rfl (any_of HT_.out (by kernel_rfl)) (fun _ _ _ h => h) (Or.inl ⟨by rfl, ?_⟩) ?_ ?_
                                rotate_left
                                · intro w'
                                  go_simp
                                  with_reducible rfl
                                rotate_left
                                · simp only [Act.put, List.setIfInBounds_toArray, List.set_cons_zero, List.set_cons_succ, i64_w, i32_w]
                                  rfl
                                refine take_ (i := 0) (N := some 45) (v := ?_) (a' := ?_) #[true, true, true, false, true, false, false, false, false, true, false, false] rfl rfl (take_ofW HT_.out HW_.out (by kernel_rfl)) (fun _ _ _ h => h) (Or.inl ⟨by rfl, ?_⟩) hHeld ?_ ?_
                                rotate_left
                                · rintro w' ⟨s0, s1, s2, s3, s4⟩
                                  go_simp
                                  with_reducible rfl
                                rotate_left
                                · simp only [Act.put, List.setIfInBounds_toArray, List.set_cons_zero, List.set_cons_succ, i64_w, i32_w]
                                  rfl
                                refine take_ (i := 3) (N := some 48) (v := ?_) (a' := ?_) #[true, true, true, true, true, false, false, false, false, true, false, false] rfl rfl (take_ofW HT_.out HW_.out (by kernel_rfl)) (fun _ _ _ h => h) (Or.inl ⟨by rfl, ?_⟩) hHeld ?_ ?_
                                rotate_left
                                · rintro w' ⟨s0, s1, s2, s3, s4⟩
                                  go_simp
                                  with_reducible rfl
                                rotate_left
                                · simp only [Act.put, List.setIfInBounds_toArray, List.set_cons_zero, List.set_cons_succ, i64_w, i32_w]
                                  rfl
                                refine pure_ (i := 5) (N := some 50) (v := ?_) (a' := ?_) #[true, true, true, true, true, true, false, false, false, true, false, false] rfl rfl (any_of HT_.out (by kernel_rfl)) (fun _ _ _ h => h) (Or.inl ⟨by rfl, ?_⟩) ?_ ?_
                                rotate_left
                                · intro w'
                                  go_simp
                                  with_reducible rfl
                                rotate_left
                                · simp only [Act.put, List.setIfInBounds_toArray, List.set_cons_zero, List.set_cons_succ, i64_w, i32_w]
                                  rfl
                                refine take_ (i := 6) (N := some 51) (v := ?_) (a' := ?_) #[true, true, true, true, true, true, true, false, false, true, false, false] rfl rfl (take_ofW HT_.out HW_.out (by kernel_rfl)) (fun _ _ _ h => h) (Or.inl ⟨by rfl, ?_⟩) hHeld ?_ ?_
                                rotate_left
                                · rintro w' ⟨s0, s1, s2, s3, s4⟩
                                  go_simp
                                  with_reducible rfl
                                rotate_left
                                · simp only [Act.put, List.setIfInBounds_toArray, List.set_cons_zero, List.set_cons_succ, i64_w, i32_w]
                                  rfl
                                refine pure_ (i := 7) (N := some 52) (v := ?_) (a' := ?_) #[true, true, true, true, true, true, true, true, false, true, false, false] rfl rfl (any_of HT_.out (by kernel_rfl)) (fun _ _ _ h => h) (Or.inl ⟨by rfl, ?_⟩) ?_ ?_
                                rotate_left
                                · intro w'
                                  go_simp
                                  with_reducible rfl
                                rotate_left
                                · simp only [Act.put, List.setIfInBounds_toArray, List.set_cons_zero, List.set_cons_succ, i64_w, i32_w]
                                  rfl
                                refine pure_ (i := 8) (N := some 53) (v := ?_) (a' := ?_) #[true, true, true, true, true, true, true, true, true, true, false, false] rfl rfl (any_of HT_.out (by kernel_rfl)) (fun _ _ _ h => h) (Or.inl ⟨by rfl, ?_⟩) ?_ ?_
                                rotate_left
                                · intro w'
                                  go_simp
                                  with_reducible rfl
                                rotate_left
                                · simp only [Act.put, List.setIfInBounds_toArray, List.set_cons_zero, List.set_cons_succ, i64_w, i32_w]
                                  rfl
                                refine one_ (i := 10) (N := some 55) #[true, true, true, true, true, true, true, true, true, true, true, false] rfl rfl (one_of HT_.out (by kernel_rfl)) (by decide) (fun K hK => ?_)
                                refine goes_ Tryz.func42 (by kernel_rfl) rfl #[.agg #[.slice Ao40 x142000_2.length co40, .slice Ao41 x142001_2.length co41, .bool x142002_2], .string ((rdOf ByteArray.empty x142000_1 x5_1).extract (((rdOf ByteArray.empty l0_0 x8_2).size : Int) : Int).toNat (rdOf ByteArray.empty x142000_1 x5_1).size), .string (rdOf ByteArray.empty x142001_1 x5_1)] (by rfl) rfl rfl (by (try simp only [List.map_toArray, List.map_cons, List.map_nil]); first | done | rfl | (simp only [List.length_drop, List.length_take]; rfl)) ?_
                                with_reducible refine (spec_l3Put.calls kj19 (fun k_ => some k_ = (.slice Ao40 x142000_2.length co40 : Value).ownBlock) (.slice Ao40 x142000_2.length co40) x142000_2 (fun k_ => some k_ = (.slice Ao41 x142001_2.length co41 : Value).ownBlock) (.slice Ao41 x142001_2.length co41) x142001_2 x142002_2 ((rdOf ByteArray.empty x142000_1 x5_1).extract (((rdOf ByteArray.empty l0_0 x8_2).size : Int) : Int).toNat (rdOf ByteArray.empty x142000_1 x5_1).size) (rdOf ByteArray.empty x142001_1 x5_1) t148 t151 t154 w0 _ ?side1 ?side2 ?side3 ?side4 ?side5 A35.out).mono ?_
                                (case side1 => repeat (first | (with_reducible first | exact HB.out | apply below_alloc | apply pw_below_drewN | apply below_drew1 | refine below_set ?_ GE140.out | refine below_set ?_ GE141.out | refine below_set ?_ GE142.out) | exact HB.out))
                                (case side2 => exact Kd.R_tight rfl HO_142000.out)
                                (case side3 => exact fun k_ e_ => (HO_142000.out.1 k_ e_.symm).2)
                                (case side4 => exact Kd.R_tight rfl HO_142001.out)
                                (case side5 => exact fun k_ e_ => (HO_142001.out.1 k_ e_.symm).2)
                                rintro e w42 ⟨v149, v152, rfl, ho0, ho1, hb, hkp⟩
                                refine ⟨_, rfl, ?_⟩
                                have n0_ := Aside0.mk (blk_kept (by (with_reducible repeat (first | refine blk_drewN ?_ _ | refine blk_drew ?_ | refine blk_alloc ?_ _)); exact BK140.out) hkp (fun hs_ => Or.elim hs_ (fun e_ => (fun e_ => (Kd.R_ne HO_142000.out BK140.out (by decide)) e_) e_) (fun e_ => (fun e_ => (Kd.R_ne HO_142001.out BK140.out (by decide)) e_) e_)))
                                have n1_ := Aside0.mk (blk_kept (by (with_reducible repeat (first | refine blk_drewN ?_ _ | refine blk_drew ?_ | refine blk_alloc ?_ _)); exact BK141.out) hkp (fun hs_ => Or.elim hs_ (fun e_ => (fun e_ => (Kd.R_ne HO_142000.out BK141.out (by decide)) e_) e_) (fun e_ => (fun e_ => (Kd.R_ne HO_142001.out BK141.out (by decide)) e_) e_)))
                                have n2_ := Aside0.mk (blk_kept (by (with_reducible repeat (first | refine blk_drewN ?_ _ | refine blk_drew ?_ | refine blk_alloc ?_ _)); exact BK142.out) hkp (fun hs_ => Or.elim hs_ (fun e_ => (fun e_ => (Kd.R_ne HO_142000.out BK142.out (by decide)) e_) e_) (fun e_ => (fun e_ => (Kd.R_ne HO_142001.out BK142.out (by decide)) e_) e_)))
                                have n3_ := Aside0.mk (Kd.R_mono (ok' := fun k_ => ((P1_0_ k_ ∨ P1_1_ k_) ∨ w.heap.size ≤ k_) ∧ some k_ ≠ (v152 : Value).ownBlock) ho0 (fun k_ hk_ => ⟨Or.elim hk_.1 (fun hs_ => Or.elim hs_ (fun hs_ => (HO_142000.out.1 k_ (hs_).symm).1) (fun hs_ => (HO_142001.out.1 k_ (hs_).symm).1)) (fun hn_ => (.inr (Nat.le_trans (by first | exact HK.out.1 | exact (show Kept w _ (fun k_ => P1_0_ k_ ∨ P1_1_ k_) from by repeat (first | (with_reducible first | exact HK.out | apply Kept.alloc | apply Kept.drewN | apply Kept.drew | refine Kept.setCell ?_ (.inr GW140.out) _ | refine Kept.setCell ?_ (.inr GW141.out) _ | refine Kept.setCell ?_ (.inr GW142.out) _) | exact HK.out)).1) hn_))), hk_.2⟩))
                                have n4_ := Aside0.mk (Kd.R_mono (ok' := fun k_ => ((P1_0_ k_ ∨ P1_1_ k_) ∨ w.heap.size ≤ k_) ∧ some k_ ≠ (v149 : Value).ownBlock) ho1 (fun k_ hk_ => ⟨Or.elim hk_.1 (fun hs_ => Or.elim hs_ (fun hs_ => (HO_142000.out.1 k_ (hs_).symm).1) (fun hs_ => (HO_142001.out.1 k_ (hs_).symm).1)) (fun hn_ => (.inr (Nat.le_trans (by first | exact HK.out.1 | exact (show Kept w _ (fun k_ => P1_0_ k_ ∨ P1_1_ k_) from by repeat (first | (with_reducible first | exact HK.out | apply Kept.alloc | apply Kept.drewN | apply Kept.drew | refine Kept.setCell ?_ (.inr GW140.out) _ | refine Kept.setCell ?_ (.inr GW141.out) _ | refine Kept.setCell ?_ (.inr GW142.out) _) | exact HK.out)).1) hn_))), hk_.2⟩))
                                have n5_ := Aside0.mk (Kept.then_ (S := (fun k_ => P1_0_ k_ ∨ P1_1_ k_)) (by repeat (first | (with_reducible first | exact HK.out | apply Kept.alloc | apply Kept.drewN | apply Kept.drew | refine Kept.setCell ?_ (.inr GW140.out) _ | refine Kept.setCell ?_ (.inr GW141.out) _ | refine Kept.setCell ?_ (.inr GW142.out) _) | exact HK.out)) hkp (fun k_ hs_ => Or.elim hs_ (fun e_ => (fun e_ => (HO_142000.out.1 k_ e_.symm).1) e_) (fun e_ => (fun e_ => (HO_142001.out.1 k_ e_.symm).1) e_)))
                                have n6_ := Aside0.mk (hb)
                                clear BK140
                                clear BK141
                                clear BK142
                                clear HK
                                clear HB
                                clear HO_142000
                                clear HO_142001
                                have BK140 := n0_
                                have BK141 := n1_
                                have BK142 := n2_
                                have HO150 := n3_
                                have HO153 := n4_
                                have HK := n5_
                                have HB := n6_
                                clear n0_ n1_ n2_ n3_ n4_ n5_ n6_
                                (try clear hb)
                                (try clear hkp)
                                (try clear ho0)
                                (try clear ho1)
                                obtain ⟨Ao43, co43, eo43⟩ := Kd.R_slice HO150.out
                                (first | subst eo43 | (injection eo43 with f1_ f2_ f3_; have f4_ := f1_.symm; have f5_ := f3_.symm; clear f1_ f2_ f3_; subst f4_; subst f5_))
                                obtain ⟨Ao45, co45, eo45⟩ := Kd.R_slice HO153.out
                                (first | subst eo45 | (injection eo45 with f1_ f2_ f3_; have f4_ := f1_.symm; have f5_ := f3_.symm; clear f1_ f2_ f3_; subst f4_; subst f5_))
                                refine hK.out _ _ ⟨(blk_cell BK141.out 0).trans rfl, (blk_cell BK141.out 1).trans rfl, (blk_cell BK141.out 2).trans rfl, (blk_cell BK140.out 0).trans rfl, (Kd.foot_string (HR0_0.out _ (by repeat (first | exact HK.out | apply Kept.alloc | apply Kept.drewN | apply Kept.drew | refine Kept.setCell ?_ (.inr GW141.out) _ | refine Kept.setCell ?_ (.inr GW141.out) _ | refine Kept.setCell ?_ (.inr GW141.out) _))) x8_2 (of_eq_true p147) (of_eq_true q147))⟩ (fun hHeld => ?_)
                                clear hK K
                                refine norm_ (a' := ?_) ?_ ?_
                                rotate_left
                                · show Act.put _ (some 55) _ = _
                                  simp only [Act.put, List.setIfInBounds_toArray, List.set_cons_zero, List.set_cons_succ, i64_w, i32_w]
                                  rfl
                                refine last_ (i := 11) (N := none) #[true, true, true, true, true, true, true, true, true, true, true, true] rfl rfl (one_of HT_.out (by kernel_rfl)) (by decide) (fun K hK => ?_)
                                have hs44 : w42.cell? ⟨gb141, 0, none⟩ = some (.slice Ao40 x142000_2.length co40) := (blk_cell BK141.out 0).trans rfl
                                have hfs44 := blk_frozen BK141.out 0
                                have hns44_0 := NB140_141.out
                                have hns44_2 := NB142_141.out
                                have hms44_0 := NB141_140.out
                                have hms44_2 := NB141_142.out
                                have hs46 : w42.cell? ⟨gb141, 1, none⟩ = some (.slice Ao41 x142001_2.length co41) := (blk_cell BK141.out 1).trans rfl
                                have hfs46 := blk_frozen BK141.out 1
                                have hns46_0 := NB140_141.out
                                have hns46_2 := NB142_141.out
                                have hms46_0 := NB141_140.out
                                have hms46_2 := NB141_142.out
                                have hs47 : w42.cell? ⟨gb141, 2, none⟩ = some (.bool x142002_2) := (blk_cell BK141.out 2).trans rfl
                                have hfs47 := blk_frozen BK141.out 2
                                have hns47_0 := NB140_141.out
                                have hns47_2 := NB142_141.out
                                have hms47_0 := NB141_140.out
                                have hms47_2 := NB141_142.out
                                refine skip_ (w1 := ?_) (by rfl) rfl ?_ ?_
                                rotate_left
                                · go_simp
                                  rfl
                                refine hK.out _ _ ?_
                                clear hK K
                                refine done_ (done_of HT_.out (by kernel_rfl)) ?_
                                try go_wp2
                                go_roundg kj19
                                case measure => have := HK1.out; have := HK2.out; have := HJ19.out; omega
                                case rel => exact ⟨(wrap64 (x8_2 + 1)), (t148), (t151), (t154), (.slice Ao43 t148.length co43), (.slice Ao45 t151.length co45), (by first | rfl | (simp; done) | (simp [*]; done)), H', ⟨by have := HK1.out; have := HK2.out; have := HJ19.out; omega⟩, ⟨by (with_reducible repeat (first | apply Kd.R_alloc | apply Kd.R_drewN | apply Kd.R_drew)); exact Kd.R_mono (Kd.R_far (p := ⟨gb141, 2, none⟩) (Kd.R_far (p := ⟨gb141, 1, none⟩) (Kd.R_far (p := ⟨gb141, 0, none⟩) (Kd.R_types HO150.out BK141.out (by decide)) (fun _ hk => hk.2) (.slice Ao43 t148.length co43)) (fun _ hk => hk.2) (.slice Ao45 t151.length co45)) (fun _ hk => hk.2) (.bool t154)) (fun _ hk => ⟨hk.1.1, hk.1.2⟩)⟩, ⟨by (with_reducible repeat (first | apply Kd.R_alloc | apply Kd.R_drewN | apply Kd.R_drew)); exact Kd.R_mono (Kd.R_far (p := ⟨gb141, 2, none⟩) (Kd.R_far (p := ⟨gb141, 1, none⟩) (Kd.R_far (p := ⟨gb141, 0, none⟩) (Kd.R_types HO153.out BK141.out (by decide)) (fun _ hk => hk.2) (.slice Ao43 t148.length co43)) (fun _ hk => hk.2) (.slice Ao45 t151.length co45)) (fun _ hk => hk.2) (.bool t154)) (fun _ hk => ⟨hk.1.1, hk.1.2⟩)⟩, ⟨by (with_reducible repeat (first | refine blk_drewN ?_ _ | refine blk_drew ?_ | refine blk_alloc ?_ _)); refine blk_far ?_ NB140_141.out _; (with_reducible repeat (first | refine blk_drewN ?_ _ | refine blk_drew ?_ | refine blk_alloc ?_ _)); refine blk_far ?_ NB140_141.out _; (with_reducible repeat (first | refine blk_drewN ?_ _ | refine blk_drew ?_ | refine blk_alloc ?_ _)); refine blk_far ?_ NB140_141.out _; (with_reducible repeat (first | refine blk_drewN ?_ _ | refine blk_drew ?_ | refine blk_alloc ?_ _)); exact BK140.out⟩, ⟨by (with_reducible repeat (first | refine blk_drewN ?_ _ | refine blk_drew ?_ | refine blk_alloc ?_ _)); refine blk_put (cs := #[.slice Ao43 t148.length co43, .slice Ao45 t151.length co45, .bool x142002_2]) ?_ 2 _ rfl; (with_reducible repeat (first | refine blk_drewN ?_ _ | refine blk_drew ?_ | refine blk_alloc ?_ _)); refine blk_put (cs := #[.slice Ao43 t148.length co43, .slice Ao41 x142001_2.length co41, .bool x142002_2]) ?_ 1 _ rfl; (with_reducible repeat (first | refine blk_drewN ?_ _ | refine blk_drew ?_ | refine blk_alloc ?_ _)); refine blk_put (cs := #[.slice Ao40 x142000_2.length co40, .slice Ao41 x142001_2.length co41, .bool x142002_2]) ?_ 0 _ rfl; (with_reducible repeat (first | refine blk_drewN ?_ _ | refine blk_drew ?_ | refine blk_alloc ?_ _)); exact BK141.out⟩, ⟨by (with_reducible repeat (first | refine blk_drewN ?_ _ | refine blk_drew ?_ | refine blk_alloc ?_ _)); refine blk_far ?_ NB142_141.out _; (with_reducible repeat (first | refine blk_drewN ?_ _ | refine blk_drew ?_ | refine blk_alloc ?_ _)); refine blk_far ?_ NB142_141.out _; (with_reducible repeat (first | refine blk_drewN ?_ _ | refine blk_drew ?_ | refine blk_alloc ?_ _)); refine blk_far ?_ NB142_141.out _; (with_reducible repeat (first | refine blk_drewN ?_ _ | refine blk_drew ?_ | refine blk_alloc ?_ _)); exact BK142.out⟩, ⟨by repeat (first | (with_reducible first | exact HK.out | apply Kept.alloc | apply Kept.drewN | apply Kept.drew | refine Kept.setCell ?_ (.inr GW140.out) _ | refine Kept.setCell ?_ (.inr GW141.out) _ | refine Kept.setCell ?_ (.inr GW142.out) _) | exact HK.out)⟩, ⟨by repeat (first | (with_reducible first | exact HB.out | apply below_alloc | apply pw_below_drewN | apply below_drew1 | refine below_set ?_ GE140.out | refine below_set ?_ GE141.out | refine below_set ?_ GE142.out) | exact HB.out)⟩⟩
                              · rw [if_neg c34] at H
                                exact absurd H (by simp)
                            · rw [if_neg c33] at H
                              exact absurd H (by simp)
                          · replace c32 := Bool.eq_false_iff.mpr c32
                            subst c32
                            have H1 : ((spec_l3Begins.f (rdOf ByteArray.empty l0_0 x8_2) (rdOf ByteArray.empty x142000_1 x5_1)).bind fun t156 => (if t156 = true then (if 0 ≤ ((rdOf ByteArray.empty x142000_1 x5_1).size : Int) then (if ((rdOf ByteArray.empty x142000_1 x5_1).size : Int) ≤ ((rdOf ByteArray.empty l0_0 x8_2).size : Int) then (if (rdOf ByteArray.empty x142001_1 x5_1).size + ((rdOf ByteArray.empty l0_0 x8_2).extract (((rdOf ByteArray.empty x142000_1 x5_1).size : Int) : Int).toNat (rdOf ByteArray.empty l0_0 x8_2).size).size ≤ 9223372036854775807 then ((spec_l3Put.f kj19 x142000_2 x142001_2 x142002_2 ((rdOf ByteArray.empty l0_0 x8_2).extract (((rdOf ByteArray.empty x142000_1 x5_1).size : Int) : Int).toNat (rdOf ByteArray.empty l0_0 x8_2).size) ((rdOf ByteArray.empty x142001_1 x5_1) ++ ((rdOf ByteArray.empty l0_0 x8_2).extract (((rdOf ByteArray.empty x142000_1 x5_1).size : Int) : Int).toNat (rdOf ByteArray.empty l0_0 x8_2).size))).bind fun bt159 => (spec_l3Step.l1 kj19 x5_1 (rdOf ByteArray.empty x142000_1 x5_1) (rdOf ByteArray.empty x142001_1 x5_1) (wrap64 (x8_2 + 1)) l0_0 bt159.1 bt159.2.1 bt159.2.2)) else (none)) else (none)) else (none)) else (spec_l3Step.l1 kj19 x5_1 (rdOf ByteArray.empty x142000_1 x5_1) (rdOf ByteArray.empty x142001_1 x5_1) (wrap64 (x8_2 + 1)) l0_0 x142000_2 x142001_2 x142002_2))) = some (r1, r2, r3) := by rw [if_neg (show ¬ (false = true) by decide)] at H; exact H
                            clear H
                            have H := H1
                            clear H1
                            replace H := Option.bind_eq_some_iff.mp H
                            obtain ⟨t156, A480, H⟩ := H
                            replace H : (if t156 = true then (if 0 ≤ ((rdOf ByteArray.empty x142000_1 x5_1).size : Int) then (if ((rdOf ByteArray.empty x142000_1 x5_1).size : Int) ≤ ((rdOf ByteArray.empty l0_0 x8_2).size : Int) then (if (rdOf ByteArray.empty x142001_1 x5_1).size + ((rdOf ByteArray.empty l0_0 x8_2).extract (((rdOf ByteArray.empty x142000_1 x5_1).size : Int) : Int).toNat (rdOf ByteArray.empty l0_0 x8_2).size).size ≤ 9223372036854775807 then ((spec_l3Put.f kj19 x142000_2 x142001_2 x142002_2 ((rdOf ByteArray.empty l0_0 x8_2).extract (((rdOf ByteArray.empty x142000_1 x5_1).size : Int) : Int).toNat (rdOf ByteArray.empty l0_0 x8_2).size) ((rdOf ByteArray.empty x142001_1 x5_1) ++ ((rdOf ByteArray.empty l0_0 x8_2).extract (((rdOf ByteArray.empty x142000_1 x5_1).size : Int) : Int).toNat (rdOf ByteArray.empty l0_0 x8_2).size))).bind fun bt159 => (spec_l3Step.l1 kj19 x5_1 (rdOf ByteArray.empty x142000_1 x5_1) (rdOf ByteArray.empty x142001_1 x5_1) (wrap64 (x8_2 + 1)) l0_0 bt159.1 bt159.2.1 bt159.2.2)) else (none)) else (none)) else (none)) else (spec_l3Step.l1 kj19 x5_1 (rdOf ByteArray.empty x142000_1 x5_1) (rdOf ByteArray.empty x142001_1 x5_1) (wrap64 (x8_2 + 1)) l0_0 x142000_2 x142001_2 x142002_2)) = some (r1, r2, r3) := H
                            have A48 := Aside0.mk A480
                            clear A480
                            by_cases c49 : t156 = true
                            · subst c49
                              have H1 : (if 0 ≤ ((rdOf ByteArray.empty x142000_1 x5_1).size : Int) then (if ((rdOf ByteArray.empty x142000_1 x5_1).size : Int) ≤ ((rdOf ByteArray.empty l0_0 x8_2).size : Int) then (if (rdOf ByteArray.empty x142001_1 x5_1).size + ((rdOf ByteArray.empty l0_0 x8_2).extract (((rdOf ByteArray.empty x142000_1 x5_1).size : Int) : Int).toNat (rdOf ByteArray.empty l0_0 x8_2).size).size ≤ 9223372036854775807 then ((spec_l3Put.f kj19 x142000_2 x142001_2 x142002_2 ((rdOf ByteArray.empty l0_0 x8_2).extract (((rdOf ByteArray.empty x142000_1 x5_1).size : Int) : Int).toNat (rdOf ByteArray.empty l0_0 x8_2).size) ((rdOf ByteArray.empty x142001_1 x5_1) ++ ((rdOf ByteArray.empty l0_0 x8_2).extract (((rdOf ByteArray.empty x142000_1 x5_1).size : Int) : Int).toNat (rdOf ByteArray.empty l0_0 x8_2).size))).bind fun bt159 => (spec_l3Step.l1 kj19 x5_1 (rdOf ByteArray.empty x142000_1 x5_1) (rdOf ByteArray.empty x142001_1 x5_1) (wrap64 (x8_2 + 1)) l0_0 bt159.1 bt159.2.1 bt159.2.2)) else (none)) else (none)) else (none)) = some (r1, r2, r3) := by rw [if_pos rfl] at H; exact H
                              clear H
                              have H := H1
                              clear H1
                              by_cases c50 : 0 ≤ ((rdOf ByteArray.empty x142000_1 x5_1).size : Int)
                              · rw [if_pos c50] at H
                                have c50b0 := eq_true c50
                                have c50b1 : decide (0 ≤ ((rdOf ByteArray.empty x142000_1 x5_1).size : Int)) = true := decide_eq_true c50
                                clear c50
                                by_cases c51 : ((rdOf ByteArray.empty x142000_1 x5_1).size : Int) ≤ ((rdOf ByteArray.empty l0_0 x8_2).size : Int)
                                · rw [if_pos c51] at H
                                  have c51b0 := eq_true c51
                                  have c51b1 : decide (((rdOf ByteArray.empty x142000_1 x5_1).size : Int) ≤ ((rdOf ByteArray.empty l0_0 x8_2).size : Int)) = true := decide_eq_true c51
                                  clear c51
                                  have c52b0 := eq_true (of_decide_eq_true (by first | (with_reducible assumption) | assumption) : 0 ≤ ((rdOf ByteArray.empty x142000_1 x5_1).size : Int))
                                  have c53b0 := eq_true (of_decide_eq_true (by first | (with_reducible assumption) | assumption) : ((rdOf ByteArray.empty x142000_1 x5_1).size : Int) ≤ ((rdOf ByteArray.empty l0_0 x8_2).size : Int))
                                  by_cases c54 : (rdOf ByteArray.empty x142001_1 x5_1).size + ((rdOf ByteArray.empty l0_0 x8_2).extract (((rdOf ByteArray.empty x142000_1 x5_1).size : Int) : Int).toNat (rdOf ByteArray.empty l0_0 x8_2).size).size ≤ 9223372036854775807
                                  · rw [if_pos c54] at H
                                    have c54b0 := eq_true c54
                                    have c54b1 : decide ((rdOf ByteArray.empty x142001_1 x5_1).size + ((rdOf ByteArray.empty l0_0 x8_2).extract (((rdOf ByteArray.empty x142000_1 x5_1).size : Int) : Int).toNat (rdOf ByteArray.empty l0_0 x8_2).size).size ≤ 9223372036854775807) = true := decide_eq_true c54
                                    try have c54b2 : (9223372036854775807 < (rdOf ByteArray.empty x142001_1 x5_1).size + ((rdOf ByteArray.empty l0_0 x8_2).extract (((rdOf ByteArray.empty x142000_1 x5_1).size : Int) : Int).toNat (rdOf ByteArray.empty l0_0 x8_2).size).size) = False := eq_false (Nat.not_lt.2 c54)
                                    try have c54b6 : (9223372036854775807 < (rdOf ByteArray.empty x142001_1 x5_1).size + ((rdOf ByteArray.empty l0_0 x8_2).size - (rdOf ByteArray.empty x142000_1 x5_1).size)) = False := eq_false (by have h_ := c54; simp only [ByteArray.size_extract, Int.toNat_natCast, Nat.min_self] at h_; exact Nat.not_lt.2 h_)
                                    replace H := Option.bind_eq_some_iff.mp H
                                    obtain ⟨⟨t159, t162, t165⟩, A550, H⟩ := H
                                    replace H : (spec_l3Step.l1 kj19 x5_1 (rdOf ByteArray.empty x142000_1 x5_1) (rdOf ByteArray.empty x142001_1 x5_1) (wrap64 (x8_2 + 1)) l0_0 t159 t162 t165) = some (r1, r2, r3) := H
                                    have A55 := Aside0.mk A550
                                    clear A550
                                    have H' := Aside0.mk H
                                    clear H
                                    have hnb56 := NB140_141.out
                                    have hnc56 := NB141_140.out
                                    have hnb57 := NB140_142.out
                                    have hnc57 := NB142_140.out
                                    have hcz58_0 : wc.cell? ⟨gb140, 0, none⟩ = some (.slice A0_0 l0_0.length c0_0) := (blk_cell BK140.out 0).trans rfl
                                    have hfz58_0 := blk_frozen BK140.out 0
                                    have p145 : 0 ≤ (x8_2 : Int) := of_decide_eq_true (by first | (with_reducible assumption) | assumption)
                                    have q145 : x8_2 < (l0_0.length : Int) := of_decide_eq_true (by first | (with_reducible assumption) | assumption)
                                    obtain ⟨ad145, e145, hx145_0⟩ := Kd.at_string (Kd.C_kept_now HR0_0.out HK.out) x8_2 p145 q145
                                    cases e145
                                    replace p145 := eq_true p145
                                    replace q145 := eq_true q145
                                    try go_wp2_with (first | ((with_reducible refine gate_callee (f := 41) rfl ?_); refine goesL_ (some 44) rfl rfl Tryz.func41 (by kernel_rfl) rfl #[.string (rdOf ByteArray.empty x142000_1 x5_1), .string (rdOf ByteArray.empty l0_0 x8_2)] rfl (by (try simp only [List.map_toArray, List.map_cons, List.map_nil]); first | done | rfl | (simp only [List.length_drop, List.length_take]; rfl)) ?_; (with_reducible refine (spec_l3Begins.calls (rdOf ByteArray.empty x142000_1 x5_1) (rdOf ByteArray.empty l0_0 x8_2) false _ A31.out).mono ?_); rintro e w' ⟨rfl, ⟨nd, rfl⟩⟩; refine ⟨_, rfl, ?_⟩; (try (rw [drewN_self wc]; generalize hq_ : World.drewN wc _ = wc; have n0_ : Aside0 (Kd.R Kd.string 9 wc w0.heap.size (fun k_ => ((P1_0_ k_ ∨ P1_1_ k_) ∨ w.heap.size ≤ k_) ∧ some k_ ≠ (u142001 : Value).ownBlock) u142000 x142000_2) := ⟨by rw [← hq_]; exact (by (with_reducible repeat (first | apply Kd.R_alloc | apply Kd.R_drewN | apply Kd.R_drew)); exact HO_142000.out)⟩; have n1_ : Aside0 (Kd.R Kd.string 9 wc w0.heap.size (fun k_ => ((P1_0_ k_ ∨ P1_1_ k_) ∨ w.heap.size ≤ k_) ∧ some k_ ≠ (u142000 : Value).ownBlock) u142001 x142001_2) := ⟨by rw [← hq_]; exact (by (with_reducible repeat (first | apply Kd.R_alloc | apply Kd.R_drewN | apply Kd.R_drew)); exact HO_142001.out)⟩; have n2_ : Aside0 (wc.heap[gb140]? = some (.cells #[.slice (some ad145) l0_0.length c0_0] 28 (0, 0))) := ⟨by rw [← hq_]; exact (by (with_reducible repeat (first | refine blk_drewN ?_ _ | refine blk_drew ?_ | refine blk_alloc ?_ _)); exact BK140.out)⟩; have n3_ : Aside0 (wc.heap[gb141]? = some (.cells #[u142000, u142001, .bool x142002_2] 52 (0, 0))) := ⟨by rw [← hq_]; exact (by (with_reducible repeat (first | refine blk_drewN ?_ _ | refine blk_drew ?_ | refine blk_alloc ?_ _)); exact BK141.out)⟩; have n4_ : Aside0 (wc.heap[gb142]? = some (.cells #[.slice none 0 0, .slice none 0 0, .bool false] 52 (0, 0))) := ⟨by rw [← hq_]; exact (by (with_reducible repeat (first | refine blk_drewN ?_ _ | refine blk_drew ?_ | refine blk_alloc ?_ _)); exact BK142.out)⟩; have n5_ : Aside0 (Kept w wc (fun k_ => P1_0_ k_ ∨ P1_1_ k_)) := ⟨by rw [← hq_]; exact (by repeat (first | (with_reducible first | exact HK.out | apply Kept.alloc | apply Kept.drewN | apply Kept.drew | refine Kept.setCell ?_ (.inr GW140.out) _ | refine Kept.setCell ?_ (.inr GW141.out) _ | refine Kept.setCell ?_ (.inr GW142.out) _) | exact HK.out))⟩; have n6_ : Aside0 (Below w0.heap.size w0 wc) := ⟨by rw [← hq_]; exact (by repeat (first | (with_reducible first | exact HB.out | apply below_alloc | apply pw_below_drewN | apply below_drew1 | refine below_set ?_ GE140.out | refine below_set ?_ GE141.out | refine below_set ?_ GE142.out) | exact HB.out))⟩; clear HO_142000 HO_142001 BK140 BK141 BK142 HK HB hq_; have HO_142000 := n0_; have HO_142001 := n1_; have BK140 := n2_; have BK141 := n3_; have BK142 := n4_; have HK := n5_; have HB := n6_; clear n0_ n1_ n2_ n3_ n4_ n5_ n6_)); (try have hczd_140_0 : wc.cell? ⟨gb140, 0, none⟩ = some (.slice (some ad145) l0_0.length c0_0) := (blk_cell BK140.out 0).trans rfl); (try have hfzd_140_0 := blk_frozen BK140.out 0); (try have hczd_141_0 : wc.cell? ⟨gb141, 0, none⟩ = some (u142000) := (blk_cell BK141.out 0).trans rfl); (try have hfzd_141_0 := blk_frozen BK141.out 0); (try have hczd_141_1 : wc.cell? ⟨gb141, 1, none⟩ = some (u142001) := (blk_cell BK141.out 1).trans rfl); (try have hfzd_141_1 := blk_frozen BK141.out 1); (try have hczd_141_2 : wc.cell? ⟨gb141, 2, none⟩ = some (.bool x142002_2) := (blk_cell BK141.out 2).trans rfl); (try have hfzd_141_2 := blk_frozen BK141.out 2); (try have hczd_142_0 : wc.cell? ⟨gb142, 0, none⟩ = some (.slice none 0 0) := (blk_cell BK142.out 0).trans rfl); (try have hfzd_142_0 := blk_frozen BK142.out 0); (try have hczd_142_1 : wc.cell? ⟨gb142, 1, none⟩ = some (.slice none 0 0) := (blk_cell BK142.out 1).trans rfl); (try have hfzd_142_1 := blk_frozen BK142.out 1); (try have hczd_142_2 : wc.cell? ⟨gb142, 2, none⟩ = some (.bool false) := (blk_cell BK142.out 2).trans rfl); (try have hfzd_142_2 := blk_frozen BK142.out 2); have p155 : 0 ≤ (x8_2 : Int) := of_decide_eq_true (by first | (with_reducible assumption) | assumption); have q155 : x8_2 < (l0_0.length : Int) := of_decide_eq_true (by first | (with_reducible assumption) | assumption); obtain ⟨ad155, e155, hx155_0⟩ := Kd.at_string (Kd.C_kept_now HR0_0.out HK.out) x8_2 p155 q155; obtain rfl : ad145 = ad155 := (by injection e155); replace p155 := eq_true p155; replace q155 := eq_true q155) | ((with_reducible refine gate_callee (f := 41) rfl ?_); refine goesL_ (some 62) rfl rfl Tryz.func41 (by kernel_rfl) rfl #[.string (rdOf ByteArray.empty l0_0 x8_2), .string (rdOf ByteArray.empty x142000_1 x5_1)] rfl (by (try simp only [List.map_toArray, List.map_cons, List.map_nil]); first | done | rfl | (simp only [List.length_drop, List.length_take]; rfl)) ?_; (with_reducible refine (spec_l3Begins.calls (rdOf ByteArray.empty l0_0 x8_2) (rdOf ByteArray.empty x142000_1 x5_1) true _ A48.out).mono ?_); rintro e w' ⟨rfl, ⟨nd, rfl⟩⟩; refine ⟨_, rfl, ?_⟩; (try (rw [drewN_self wc]; generalize hq_ : World.drewN wc _ = wc; have n0_ : Aside0 (Kd.R Kd.string 9 wc w0.heap.size (fun k_ => ((P1_0_ k_ ∨ P1_1_ k_) ∨ w.heap.size ≤ k_) ∧ some k_ ≠ (u142001 : Value).ownBlock) u142000 x142000_2) := ⟨by rw [← hq_]; exact (by (with_reducible repeat (first | apply Kd.R_alloc | apply Kd.R_drewN | apply Kd.R_drew)); exact HO_142000.out)⟩; have n1_ : Aside0 (Kd.R Kd.string 9 wc w0.heap.size (fun k_ => ((P1_0_ k_ ∨ P1_1_ k_) ∨ w.heap.size ≤ k_) ∧ some k_ ≠ (u142000 : Value).ownBlock) u142001 x142001_2) := ⟨by rw [← hq_]; exact (by (with_reducible repeat (first | apply Kd.R_alloc | apply Kd.R_drewN | apply Kd.R_drew)); exact HO_142001.out)⟩; have n2_ : Aside0 (wc.heap[gb140]? = some (.cells #[.slice (some ad145) l0_0.length c0_0] 28 (0, 0))) := ⟨by rw [← hq_]; exact (by (with_reducible repeat (first | refine blk_drewN ?_ _ | refine blk_drew ?_ | refine blk_alloc ?_ _)); exact BK140.out)⟩; have n3_ : Aside0 (wc.heap[gb141]? = some (.cells #[u142000, u142001, .bool x142002_2] 52 (0, 0))) := ⟨by rw [← hq_]; exact (by (with_reducible repeat (first | refine blk_drewN ?_ _ | refine blk_drew ?_ | refine blk_alloc ?_ _)); exact BK141.out)⟩; have n4_ : Aside0 (wc.heap[gb142]? = some (.cells #[.slice none 0 0, .slice none 0 0, .bool false] 52 (0, 0))) := ⟨by rw [← hq_]; exact (by (with_reducible repeat (first | refine blk_drewN ?_ _ | refine blk_drew ?_ | refine blk_alloc ?_ _)); exact BK142.out)⟩; have n5_ : Aside0 (Kept w wc (fun k_ => P1_0_ k_ ∨ P1_1_ k_)) := ⟨by rw [← hq_]; exact (by repeat (first | (with_reducible first | exact HK.out | apply Kept.alloc | apply Kept.drewN | apply Kept.drew | refine Kept.setCell ?_ (.inr GW140.out) _ | refine Kept.setCell ?_ (.inr GW141.out) _ | refine Kept.setCell ?_ (.inr GW142.out) _) | exact HK.out))⟩; have n6_ : Aside0 (Below w0.heap.size w0 wc) := ⟨by rw [← hq_]; exact (by repeat (first | (with_reducible first | exact HB.out | apply below_alloc | apply pw_below_drewN | apply below_drew1 | refine below_set ?_ GE140.out | refine below_set ?_ GE141.out | refine below_set ?_ GE142.out) | exact HB.out))⟩; clear HO_142000 HO_142001 BK140 BK141 BK142 HK HB hq_; have HO_142000 := n0_; have HO_142001 := n1_; have BK140 := n2_; have BK141 := n3_; have BK142 := n4_; have HK := n5_; have HB := n6_; clear n0_ n1_ n2_ n3_ n4_ n5_ n6_)); (try have hczd_140_0 : wc.cell? ⟨gb140, 0, none⟩ = some (.slice (some ad145) l0_0.length c0_0) := (blk_cell BK140.out 0).trans rfl); (try have hfzd_140_0 := blk_frozen BK140.out 0); (try have hczd_141_0 : wc.cell? ⟨gb141, 0, none⟩ = some (u142000) := (blk_cell BK141.out 0).trans rfl); (try have hfzd_141_0 := blk_frozen BK141.out 0); (try have hczd_141_1 : wc.cell? ⟨gb141, 1, none⟩ = some (u142001) := (blk_cell BK141.out 1).trans rfl); (try have hfzd_141_1 := blk_frozen BK141.out 1); (try have hczd_141_2 : wc.cell? ⟨gb141, 2, none⟩ = some (.bool x142002_2) := (blk_cell BK141.out 2).trans rfl); (try have hfzd_141_2 := blk_frozen BK141.out 2); (try have hczd_142_0 : wc.cell? ⟨gb142, 0, none⟩ = some (.slice none 0 0) := (blk_cell BK142.out 0).trans rfl); (try have hfzd_142_0 := blk_frozen BK142.out 0); (try have hczd_142_1 : wc.cell? ⟨gb142, 1, none⟩ = some (.slice none 0 0) := (blk_cell BK142.out 1).trans rfl); (try have hfzd_142_1 := blk_frozen BK142.out 1); (try have hczd_142_2 : wc.cell? ⟨gb142, 2, none⟩ = some (.bool false) := (blk_cell BK142.out 2).trans rfl); (try have hfzd_142_2 := blk_frozen BK142.out 2)))
                                    have n0_ := Aside0.mk (Kd.R_drew HO_142000.out)
                                    have n1_ := Aside0.mk (Kd.R_drew HO_142001.out)
                                    have n2_ := Aside0.mk (blk_drew BK140.out)
                                    have n3_ := Aside0.mk (blk_drew BK141.out)
                                    have n4_ := Aside0.mk (blk_drew BK142.out)
                                    have n5_ := Aside0.mk (Kept.drew HK.out)
                                    have n6_ := Aside0.mk (below_drew1 HB.out)
                                    clear HO_142000
                                    clear HO_142001
                                    clear BK140
                                    clear BK141
                                    clear BK142
                                    clear HK
                                    clear HB
                                    have HO_142000 := n0_
                                    have HO_142001 := n1_
                                    have BK140 := n2_
                                    have BK141 := n3_
                                    have BK142 := n4_
                                    have HK := n5_
                                    have HB := n6_
                                    clear n0_ n1_ n2_ n3_ n4_ n5_ n6_
                                    have p157 : 0 ≤ (x8_2 : Int) := of_decide_eq_true (by first | (with_reducible assumption) | assumption)
                                    have q157 : x8_2 < (l0_0.length : Int) := of_decide_eq_true (by first | (with_reducible assumption) | assumption)
                                    obtain ⟨ad157, e157, hx157_0⟩ := Kd.at_string (Kd.C_kept_now HR0_0.out HK.out) x8_2 p157 q157
                                    have hw157_0 := hx157_0
                                    obtain rfl : ad145 = ad157 := (by injection e157)
                                    replace p157 := eq_true p157
                                    replace q157 := eq_true q157
                                    have p158 : 0 ≤ (x8_2 : Int) := of_decide_eq_true (by first | (with_reducible assumption) | assumption)
                                    have q158 : x8_2 < (l0_0.length : Int) := of_decide_eq_true (by first | (with_reducible assumption) | assumption)
                                    obtain ⟨ad158, e158, hx158_0⟩ := Kd.at_string (Kd.C_kept_now HR0_0.out HK.out) x8_2 p158 q158
                                    have hw158_0 := hx158_0
                                    obtain rfl : ad145 = ad158 := (by injection e158)
                                    replace p158 := eq_true p158
                                    replace q158 := eq_true q158
                                    obtain ⟨Ao60, co60, eo60⟩ := Kd.R_slice HO_142000.out
                                    (first | subst eo60 | (injection eo60 with f1_ f2_ f3_; have f4_ := f1_.symm; have f5_ := f3_.symm; clear f1_ f2_ f3_; subst f4_; subst f5_))
                                    obtain ⟨Ao61, co61, eo61⟩ := Kd.R_slice HO_142001.out
                                    (first | subst eo61 | (injection eo61 with f1_ f2_ f3_; have f4_ := f1_.symm; have f5_ := f3_.symm; clear f1_ f2_ f3_; subst f4_; subst f5_))
                                    refine start_ (n := 21) (S := fun w' => w'.cell? ⟨gb141, 0, none⟩ = some (.slice Ao60 x142000_2.length co60) ∧ w'.cell? ⟨gb141, 1, none⟩ = some (.slice Ao61 x142001_2.length co61) ∧ w'.cell? ⟨gb141, 2, none⟩ = some (.bool x142002_2) ∧ w'.cell? ⟨gb140, 0, none⟩ = some (.slice (some ad145) l0_0.length c0_0) ∧ w'.cell? (ad145.add (x8_2).toNat) = some (.string (rdOf ByteArray.empty l0_0 x8_2)) ∧ w'.cell? (ad145.add (x8_2).toNat) = some (.string (rdOf ByteArray.empty l0_0 x8_2))) (ds := [20]) #[false, false, false, false, false, false, false, false, false, false, false, false, false, false, false, false, false, false, false, false, false] (by kernel_rfl) rfl rfl ⟨(blk_cell BK141.out 0).trans rfl, (blk_cell BK141.out 1).trans rfl, (blk_cell BK141.out 2).trans rfl, (blk_cell BK140.out 0).trans rfl, (Kd.foot_string (HR0_0.out _ (by repeat (first | exact HK.out | apply Kept.alloc | apply Kept.drewN | apply Kept.drew | refine Kept.setCell ?_ (.inr GW141.out) _ | refine Kept.setCell ?_ (.inr GW141.out) _ | refine Kept.setCell ?_ (.inr GW141.out) _))) x8_2 (of_eq_true p157) (of_eq_true q157)), (Kd.foot_string (HR0_0.out _ (by repeat (first | exact HK.out | apply Kept.alloc | apply Kept.drewN | apply Kept.drew | refine Kept.setCell ?_ (.inr GW141.out) _ | refine Kept.setCell ?_ (.inr GW141.out) _ | refine Kept.setCell ?_ (.inr GW141.out) _))) x8_2 (of_eq_true p158) (of_eq_true q158))⟩ (fun hHeld => ?_); refine with_tabW spec_l3Step.tab12 spec_l3Step.bits12 (fun HT_ HW_ => ?_)
                                    generalize wc.drew = w59 at HO_142000 HO_142001 BK140 BK141 BK142 HK HB hx157_0 hx158_0 hHeld ⊢
                                    refine pure_ (i := 1) (N := some 64) (v := ?_) (a' := ?_) #[false, true, false, false, false, false, false, false, false, false, false, false, false, false, false, false, false, false, false, false, false] rfl rfl (any_of HT_.out (by kernel_rfl)) (fun _ _ _ h => h) (Or.inl ⟨by rfl, ?_⟩) ?_ ?_
                                    rotate_left
                                    · intro w'
                                      go_simp
                                      with_reducible rfl
                                    rotate_left
                                    · simp only [Act.put, List.setIfInBounds_toArray, List.set_cons_zero, List.set_cons_succ, i64_w, i32_w]
                                      rfl
                                    refine pure_ (i := 3) (N := some 66) (v := ?_) (a' := ?_) #[false, true, false, true, false, false, false, false, false, false, false, false, false, false, false, false, false, false, false, false, false] rfl rfl (any_of HT_.out (by kernel_rfl)) (fun _ _ _ h => h) (Or.inl ⟨by rfl, ?_⟩) ?_ ?_
                                    rotate_left
                                    · intro w'
                                      go_simp
                                      with_reducible rfl
                                    rotate_left
                                    · simp only [Act.put, List.setIfInBounds_toArray, List.set_cons_zero, List.set_cons_succ, i64_w, i32_w]
                                      rfl
                                    refine pure_ (i := 6) (N := some 69) (v := ?_) (a' := ?_) #[false, true, false, true, false, false, true, false, false, false, false, false, false, false, false, false, false, false, false, false, false] rfl rfl (any_of HT_.out (by kernel_rfl)) (fun _ _ _ h => h) (Or.inl ⟨by rfl, ?_⟩) ?_ ?_
                                    rotate_left
                                    · intro w'
                                      go_simp
                                      with_reducible rfl
                                    rotate_left
                                    · simp only [Act.put, List.setIfInBounds_toArray, List.set_cons_zero, List.set_cons_succ, i64_w, i32_w]
                                      rfl
                                    refine pure_ (i := 7) (N := some 70) (v := ?_) (a' := ?_) #[false, true, false, true, false, false, true, true, false, false, false, false, false, false, false, false, false, false, false, false, false] rfl rfl (any_of HT_.out (by kernel_rfl)) (fun _ _ _ h => h) (Or.inl ⟨by rfl, ?_⟩) ?_ ?_
                                    rotate_left
                                    · intro w'
                                      go_simp
                                      with_reducible rfl
                                    rotate_left
                                    · simp only [Act.put, List.setIfInBounds_toArray, List.set_cons_zero, List.set_cons_succ, i64_w, i32_w]
                                      rfl
                                    refine pure_ (i := 9) (N := some 72) (v := ?_) (a' := ?_) #[false, true, false, true, false, false, true, true, false, true, false, false, false, false, false, false, false, false, false, false, false] rfl rfl (any_of HT_.out (by kernel_rfl)) (fun _ _ _ h => h) (Or.inl ⟨by rfl, ?_⟩) ?_ ?_
                                    rotate_left
                                    · intro w'
                                      go_simp
                                      with_reducible rfl
                                    rotate_left
                                    · simp only [Act.put, List.setIfInBounds_toArray, List.set_cons_zero, List.set_cons_succ, i64_w, i32_w]
                                      rfl
                                    refine pure_ (i := 10) (N := some 73) (v := ?_) (a' := ?_) #[false, true, false, true, false, false, true, true, false, true, true, false, false, false, false, false, false, false, false, false, false] rfl rfl (any_of HT_.out (by kernel_rfl)) (fun _ _ _ h => h) (Or.inl ⟨by rfl, ?_⟩) ?_ ?_
                                    rotate_left
                                    · intro w'
                                      go_simp
                                      with_reducible rfl
                                    rotate_left
                                    · simp only [Act.put, List.setIfInBounds_toArray, List.set_cons_zero, List.set_cons_succ, i64_w, i32_w]
                                      rfl
                                    refine pure_ (i := 12) (N := some 75) (v := ?_) (a' := ?_) #[false, true, false, true, false, false, true, true, false, true, true, false, true, false, false, false, false, false, false, false, false] rfl rfl (any_of HT_.out (by kernel_rfl)) (fun _ _ _ h => h) (Or.inl ⟨by rfl, ?_⟩) ?_ ?_
                                    rotate_left
                                    · intro w'
                                      go_simp
                                      with_reducible rfl
                                    rotate_left
                                    · simp only [Act.put, List.setIfInBounds_toArray, List.set_cons_zero, List.set_cons_succ, i64_w, i32_w]
                                      rfl
                                    refine pure_ (i := 15) (N := some 78) (v := ?_) (a' := ?_) #[false, true, false, true, false, false, true, true, false, true, true, false, true, false, false, true, false, false, false, false, false] rfl rfl (any_of HT_.out (by kernel_rfl)) (fun _ _ _ h => h) (Or.inl ⟨by rfl, ?_⟩) ?_ ?_
                                    rotate_left
                                    · intro w'
                                      go_simp
                                      with_reducible rfl
                                    rotate_left
                                    · simp only [Act.put, List.setIfInBounds_toArray, List.set_cons_zero, List.set_cons_succ, i64_w, i32_w]
                                      rfl
                                    refine pure_ (i := 16) (N := some 79) (v := ?_) (a' := ?_) #[false, true, false, true, false, false, true, true, false, true, true, false, true, false, false, true, true, false, false, false, false] rfl rfl (any_of HT_.out (by kernel_rfl)) (fun _ _ _ h => h) (Or.inl ⟨by rfl, ?_⟩) ?_ ?_
                                    rotate_left
                                    · intro w'
                                      go_simp
                                      with_reducible rfl
                                    rotate_left
                                    · simp only [Act.put, List.setIfInBounds_toArray, List.set_cons_zero, List.set_cons_succ, i64_w, i32_w]
                                      rfl
                                    refine take_ (i := 0) (N := some 63) (v := ?_) (a' := ?_) #[true, true, false, true, false, false, true, true, false, true, true, false, true, false, false, true, true, false, false, false, false] rfl rfl (take_ofW HT_.out HW_.out (by kernel_rfl)) (fun _ _ _ h => h) (Or.inl ⟨by rfl, ?_⟩) hHeld ?_ ?_
                                    rotate_left
                                    · rintro w' ⟨s0, s1, s2, s3, s4, s5⟩
                                      go_simp
                                      with_reducible rfl
                                    rotate_left
                                    · simp only [Act.put, List.setIfInBounds_toArray, List.set_cons_zero, List.set_cons_succ, i64_w, i32_w]
                                      rfl
                                    refine take_ (i := 2) (N := some 65) (v := ?_) (a' := ?_) #[true, true, true, true, false, false, true, true, false, true, true, false, true, false, false, true, true, false, false, false, false] rfl rfl (take_ofW HT_.out HW_.out (by kernel_rfl)) (fun _ _ _ h => h) (Or.inl ⟨by rfl, ?_⟩) hHeld ?_ ?_
                                    rotate_left
                                    · rintro w' ⟨s0, s1, s2, s3, s4, s5⟩
                                      go_simp
                                      with_reducible rfl
                                    rotate_left
                                    · simp only [Act.put, List.setIfInBounds_toArray, List.set_cons_zero, List.set_cons_succ, i64_w, i32_w]
                                      rfl
                                    refine pure_ (i := 4) (N := some 67) (v := ?_) (a' := ?_) #[true, true, true, true, true, false, true, true, false, true, true, false, true, false, false, true, true, false, false, false, false] rfl rfl (any_of HT_.out (by kernel_rfl)) (fun _ _ _ h => h) (Or.inl ⟨by rfl, ?_⟩) ?_ ?_
                                    rotate_left
                                    · intro w'
                                      go_simp
                                      with_reducible rfl
                                    rotate_left
                                    · simp only [Act.put, List.setIfInBounds_toArray, List.set_cons_zero, List.set_cons_succ, i64_w, i32_w]
                                      rfl
                                    refine take_ (i := 5) (N := some 68) (v := ?_) (a' := ?_) #[true, true, true, true, true, true, true, true, false, true, true, false, true, false, false, true, true, false, false, false, false] rfl rfl (take_ofW HT_.out HW_.out (by kernel_rfl)) (fun _ _ _ h => h) (Or.inl ⟨by rfl, ?_⟩) hHeld ?_ ?_
                                    rotate_left
                                    · rintro w' ⟨s0, s1, s2, s3, s4, s5⟩
                                      go_simp
                                      with_reducible rfl
                                    rotate_left
                                    · simp only [Act.put, List.setIfInBounds_toArray, List.set_cons_zero, List.set_cons_succ, i64_w, i32_w]
                                      rfl
                                    refine pure_ (i := 8) (N := some 71) (v := ?_) (a' := ?_) #[true, true, true, true, true, true, true, true, true, true, true, false, true, false, false, true, true, false, false, false, false] rfl rfl (any_of HT_.out (by kernel_rfl)) (fun _ _ _ h => h) (Or.inl ⟨by rfl, ?_⟩) ?_ ?_
                                    rotate_left
                                    · intro w'
                                      go_simp
                                      with_reducible rfl
                                    rotate_left
                                    · simp only [Act.put, List.setIfInBounds_toArray, List.set_cons_zero, List.set_cons_succ, i64_w, i32_w]
                                      rfl
                                    refine take_ (i := 11) (N := some 74) (v := ?_) (a' := ?_) #[true, true, true, true, true, true, true, true, true, true, true, true, true, false, false, true, true, false, false, false, false] rfl rfl (take_ofW HT_.out HW_.out (by kernel_rfl)) (fun _ _ _ h => h) (Or.inl ⟨by rfl, ?_⟩) hHeld ?_ ?_
                                    rotate_left
                                    · rintro w' ⟨s0, s1, s2, s3, s4, s5⟩
                                      go_simp
                                      with_reducible rfl
                                    rotate_left
                                    · simp only [Act.put, List.setIfInBounds_toArray, List.set_cons_zero, List.set_cons_succ, i64_w, i32_w]
                                      rfl
                                    refine pure_ (i := 13) (N := some 76) (v := ?_) (a' := ?_) #[true, true, true, true, true, true, true, true, true, true, true, true, true, true, false, true, true, false, false, false, false] rfl rfl (any_of HT_.out (by kernel_rfl)) (fun _ _ _ h => h) (Or.inl ⟨by rfl, ?_⟩) ?_ ?_
                                    rotate_left
                                    · intro w'
                                      go_simp
                                      with_reducible rfl
                                    rotate_left
                                    · simp only [Act.put, List.setIfInBounds_toArray, List.set_cons_zero, List.set_cons_succ, i64_w, i32_w]
                                      rfl
                                    refine take_ (i := 14) (N := some 77) (v := ?_) (a' := ?_) #[true, true, true, true, true, true, true, true, true, true, true, true, true, true, true, true, true, false, false, false, false] rfl rfl (take_ofW HT_.out HW_.out (by kernel_rfl)) (fun _ _ _ h => h) (Or.inl ⟨by rfl, ?_⟩) hHeld ?_ ?_
                                    rotate_left
                                    · rintro w' ⟨s0, s1, s2, s3, s4, s5⟩
                                      go_simp
                                      with_reducible rfl
                                    rotate_left
                                    · simp only [Act.put, List.setIfInBounds_toArray, List.set_cons_zero, List.set_cons_succ, i64_w, i32_w]
                                      rfl
                                    refine pure_ (i := 17) (N := some 80) (v := ?_) (a' := ?_) #[true, true, true, true, true, true, true, true, true, true, true, true, true, true, true, true, true, true, false, false, false] rfl rfl (any_of HT_.out (by kernel_rfl)) (fun _ _ _ h => h) (Or.inl ⟨by rfl, ?_⟩) ?_ ?_
                                    rotate_left
                                    · intro w'
                                      go_simp
                                      with_reducible rfl
                                    rotate_left
                                    · simp only [Act.put, List.setIfInBounds_toArray, List.set_cons_zero, List.set_cons_succ, i64_w, i32_w]
                                      rfl
                                    refine pure_ (i := 18) (N := some 81) (v := ?_) (a' := ?_) #[true, true, true, true, true, true, true, true, true, true, true, true, true, true, true, true, true, true, true, false, false] rfl rfl (any_of HT_.out (by kernel_rfl)) (fun _ _ _ h => h) (Or.inl ⟨by rfl, ?_⟩) ?_ ?_
                                    rotate_left
                                    · intro w'
                                      go_simp
                                      with_reducible rfl
                                    rotate_left
                                    · simp only [Act.put, List.setIfInBounds_toArray, List.set_cons_zero, List.set_cons_succ, i64_w, i32_w]
                                      rfl
                                    refine one_ (i := 19) (N := some 82) #[true, true, true, true, true, true, true, true, true, true, true, true, true, true, true, true, true, true, true, true, false] rfl rfl (one_of HT_.out (by kernel_rfl)) (by decide) (fun K hK => ?_)
                                    refine goes_ Tryz.func42 (by kernel_rfl) rfl #[.agg #[.slice Ao60 x142000_2.length co60, .slice Ao61 x142001_2.length co61, .bool x142002_2], .string ((rdOf ByteArray.empty l0_0 x8_2).extract (((rdOf ByteArray.empty x142000_1 x5_1).size : Int) : Int).toNat (rdOf ByteArray.empty l0_0 x8_2).size), .string ((rdOf ByteArray.empty x142001_1 x5_1) ++ ((rdOf ByteArray.empty l0_0 x8_2).extract (((rdOf ByteArray.empty x142000_1 x5_1).size : Int) : Int).toNat (rdOf ByteArray.empty l0_0 x8_2).size))] (by rfl) rfl rfl (by (try simp only [List.map_toArray, List.map_cons, List.map_nil]); first | done | rfl | (simp only [List.length_drop, List.length_take]; rfl)) ?_
                                    with_reducible refine (spec_l3Put.calls kj19 (fun k_ => some k_ = (.slice Ao60 x142000_2.length co60 : Value).ownBlock) (.slice Ao60 x142000_2.length co60) x142000_2 (fun k_ => some k_ = (.slice Ao61 x142001_2.length co61 : Value).ownBlock) (.slice Ao61 x142001_2.length co61) x142001_2 x142002_2 ((rdOf ByteArray.empty l0_0 x8_2).extract (((rdOf ByteArray.empty x142000_1 x5_1).size : Int) : Int).toNat (rdOf ByteArray.empty l0_0 x8_2).size) ((rdOf ByteArray.empty x142001_1 x5_1) ++ ((rdOf ByteArray.empty l0_0 x8_2).extract (((rdOf ByteArray.empty x142000_1 x5_1).size : Int) : Int).toNat (rdOf ByteArray.empty l0_0 x8_2).size)) t159 t162 t165 w0 _ ?side1 ?side2 ?side3 ?side4 ?side5 A55.out).mono ?_
                                    (case side1 => repeat (first | (with_reducible first | exact HB.out | apply below_alloc | apply pw_below_drewN | apply below_drew1 | refine below_set ?_ GE140.out | refine below_set ?_ GE141.out | refine below_set ?_ GE142.out) | exact HB.out))
                                    (case side2 => exact Kd.R_tight rfl HO_142000.out)
                                    (case side3 => exact fun k_ e_ => (HO_142000.out.1 k_ e_.symm).2)
                                    (case side4 => exact Kd.R_tight rfl HO_142001.out)
                                    (case side5 => exact fun k_ e_ => (HO_142001.out.1 k_ e_.symm).2)
                                    rintro e w62 ⟨v160, v163, rfl, ho0, ho1, hb, hkp⟩
                                    refine ⟨_, rfl, ?_⟩
                                    have n0_ := Aside0.mk (blk_kept (by (with_reducible repeat (first | refine blk_drewN ?_ _ | refine blk_drew ?_ | refine blk_alloc ?_ _)); exact BK140.out) hkp (fun hs_ => Or.elim hs_ (fun e_ => (fun e_ => (Kd.R_ne HO_142000.out BK140.out (by decide)) e_) e_) (fun e_ => (fun e_ => (Kd.R_ne HO_142001.out BK140.out (by decide)) e_) e_)))
                                    have n1_ := Aside0.mk (blk_kept (by (with_reducible repeat (first | refine blk_drewN ?_ _ | refine blk_drew ?_ | refine blk_alloc ?_ _)); exact BK141.out) hkp (fun hs_ => Or.elim hs_ (fun e_ => (fun e_ => (Kd.R_ne HO_142000.out BK141.out (by decide)) e_) e_) (fun e_ => (fun e_ => (Kd.R_ne HO_142001.out BK141.out (by decide)) e_) e_)))
                                    have n2_ := Aside0.mk (blk_kept (by (with_reducible repeat (first | refine blk_drewN ?_ _ | refine blk_drew ?_ | refine blk_alloc ?_ _)); exact BK142.out) hkp (fun hs_ => Or.elim hs_ (fun e_ => (fun e_ => (Kd.R_ne HO_142000.out BK142.out (by decide)) e_) e_) (fun e_ => (fun e_ => (Kd.R_ne HO_142001.out BK142.out (by decide)) e_) e_)))
                                    have n3_ := Aside0.mk (Kd.R_mono (ok' := fun k_ => ((P1_0_ k_ ∨ P1_1_ k_) ∨ w.heap.size ≤ k_) ∧ some k_ ≠ (v163 : Value).ownBlock) ho0 (fun k_ hk_ => ⟨Or.elim hk_.1 (fun hs_ => Or.elim hs_ (fun hs_ => (HO_142000.out.1 k_ (hs_).symm).1) (fun hs_ => (HO_142001.out.1 k_ (hs_).symm).1)) (fun hn_ => (.inr (Nat.le_trans (by first | exact HK.out.1 | exact (show Kept w _ (fun k_ => P1_0_ k_ ∨ P1_1_ k_) from by repeat (first | (with_reducible first | exact HK.out | apply Kept.alloc | apply Kept.drewN | apply Kept.drew | refine Kept.setCell ?_ (.inr GW140.out) _ | refine Kept.setCell ?_ (.inr GW141.out) _ | refine Kept.setCell ?_ (.inr GW142.out) _) | exact HK.out)).1) hn_))), hk_.2⟩))
                                    have n4_ := Aside0.mk (Kd.R_mono (ok' := fun k_ => ((P1_0_ k_ ∨ P1_1_ k_) ∨ w.heap.size ≤ k_) ∧ some k_ ≠ (v160 : Value).ownBlock) ho1 (fun k_ hk_ => ⟨Or.elim hk_.1 (fun hs_ => Or.elim hs_ (fun hs_ => (HO_142000.out.1 k_ (hs_).symm).1) (fun hs_ => (HO_142001.out.1 k_ (hs_).symm).1)) (fun hn_ => (.inr (Nat.le_trans (by first | exact HK.out.1 | exact (show Kept w _ (fun k_ => P1_0_ k_ ∨ P1_1_ k_) from by repeat (first | (with_reducible first | exact HK.out | apply Kept.alloc | apply Kept.drewN | apply Kept.drew | refine Kept.setCell ?_ (.inr GW140.out) _ | refine Kept.setCell ?_ (.inr GW141.out) _ | refine Kept.setCell ?_ (.inr GW142.out) _) | exact HK.out)).1) hn_))), hk_.2⟩))
                                    have n5_ := Aside0.mk (Kept.then_ (S := (fun k_ => P1_0_ k_ ∨ P1_1_ k_)) (by repeat (first | (with_reducible first | exact HK.out | apply Kept.alloc | apply Kept.drewN | apply Kept.drew | refine Kept.setCell ?_ (.inr GW140.out) _ | refine Kept.setCell ?_ (.inr GW141.out) _ | refine Kept.setCell ?_ (.inr GW142.out) _) | exact HK.out)) hkp (fun k_ hs_ => Or.elim hs_ (fun e_ => (fun e_ => (HO_142000.out.1 k_ e_.symm).1) e_) (fun e_ => (fun e_ => (HO_142001.out.1 k_ e_.symm).1) e_)))
                                    have n6_ := Aside0.mk (hb)
                                    clear BK140
                                    clear BK141
                                    clear BK142
                                    clear HK
                                    clear HB
                                    clear HO_142000
                                    clear HO_142001
                                    have BK140 := n0_
                                    have BK141 := n1_
                                    have BK142 := n2_
                                    have HO161 := n3_
                                    have HO164 := n4_
                                    have HK := n5_
                                    have HB := n6_
                                    clear n0_ n1_ n2_ n3_ n4_ n5_ n6_
                                    (try clear hb)
                                    (try clear hkp)
                                    (try clear ho0)
                                    (try clear ho1)
                                    obtain ⟨Ao63, co63, eo63⟩ := Kd.R_slice HO161.out
                                    (first | subst eo63 | (injection eo63 with f1_ f2_ f3_; have f4_ := f1_.symm; have f5_ := f3_.symm; clear f1_ f2_ f3_; subst f4_; subst f5_))
                                    obtain ⟨Ao65, co65, eo65⟩ := Kd.R_slice HO164.out
                                    (first | subst eo65 | (injection eo65 with f1_ f2_ f3_; have f4_ := f1_.symm; have f5_ := f3_.symm; clear f1_ f2_ f3_; subst f4_; subst f5_))
                                    refine hK.out _ _ ⟨(blk_cell BK141.out 0).trans rfl, (blk_cell BK141.out 1).trans rfl, (blk_cell BK141.out 2).trans rfl, (blk_cell BK140.out 0).trans rfl, (Kd.foot_string (HR0_0.out _ (by repeat (first | exact HK.out | apply Kept.alloc | apply Kept.drewN | apply Kept.drew | refine Kept.setCell ?_ (.inr GW141.out) _ | refine Kept.setCell ?_ (.inr GW141.out) _ | refine Kept.setCell ?_ (.inr GW141.out) _))) x8_2 (of_eq_true p157) (of_eq_true q157)), (Kd.foot_string (HR0_0.out _ (by repeat (first | exact HK.out | apply Kept.alloc | apply Kept.drewN | apply Kept.drew | refine Kept.setCell ?_ (.inr GW141.out) _ | refine Kept.setCell ?_ (.inr GW141.out) _ | refine Kept.setCell ?_ (.inr GW141.out) _))) x8_2 (of_eq_true p158) (of_eq_true q158))⟩ (fun hHeld => ?_)
                                    clear hK K
                                    refine norm_ (a' := ?_) ?_ ?_
                                    rotate_left
                                    · show Act.put _ (some 82) _ = _
                                      simp only [Act.put, List.setIfInBounds_toArray, List.set_cons_zero, List.set_cons_succ, i64_w, i32_w]
                                      rfl
                                    refine last_ (i := 20) (N := none) #[true, true, true, true, true, true, true, true, true, true, true, true, true, true, true, true, true, true, true, true, true] rfl rfl (one_of HT_.out (by kernel_rfl)) (by decide) (fun K hK => ?_)
                                    have hs64 : w62.cell? ⟨gb141, 0, none⟩ = some (.slice Ao60 x142000_2.length co60) := (blk_cell BK141.out 0).trans rfl
                                    have hfs64 := blk_frozen BK141.out 0
                                    have hns64_0 := NB140_141.out
                                    have hns64_2 := NB142_141.out
                                    have hms64_0 := NB141_140.out
                                    have hms64_2 := NB141_142.out
                                    have hs66 : w62.cell? ⟨gb141, 1, none⟩ = some (.slice Ao61 x142001_2.length co61) := (blk_cell BK141.out 1).trans rfl
                                    have hfs66 := blk_frozen BK141.out 1
                                    have hns66_0 := NB140_141.out
                                    have hns66_2 := NB142_141.out
                                    have hms66_0 := NB141_140.out
                                    have hms66_2 := NB141_142.out
                                    have hs67 : w62.cell? ⟨gb141, 2, none⟩ = some (.bool x142002_2) := (blk_cell BK141.out 2).trans rfl
                                    have hfs67 := blk_frozen BK141.out 2
                                    have hns67_0 := NB140_141.out
                                    have hns67_2 := NB142_141.out
                                    have hms67_0 := NB141_140.out
                                    have hms67_2 := NB141_142.out
                                    refine skip_ (w1 := ?_) (by rfl) rfl ?_ ?_
                                    rotate_left
                                    · go_simp
                                      rfl
                                    refine hK.out _ _ ?_
                                    clear hK K
                                    refine done_ (done_of HT_.out (by kernel_rfl)) ?_
                                    try go_wp2
                                    go_roundg kj19
                                    case measure => have := HK1.out; have := HK2.out; have := HJ19.out; omega
                                    case rel => exact ⟨(wrap64 (x8_2 + 1)), (t159), (t162), (t165), (.slice Ao63 t159.length co63), (.slice Ao65 t162.length co65), (by first | rfl | (simp; done) | (simp [*]; done)), H', ⟨by have := HK1.out; have := HK2.out; have := HJ19.out; omega⟩, ⟨by (with_reducible repeat (first | apply Kd.R_alloc | apply Kd.R_drewN | apply Kd.R_drew)); exact Kd.R_mono (Kd.R_far (p := ⟨gb141, 2, none⟩) (Kd.R_far (p := ⟨gb141, 1, none⟩) (Kd.R_far (p := ⟨gb141, 0, none⟩) (Kd.R_types HO161.out BK141.out (by decide)) (fun _ hk => hk.2) (.slice Ao63 t159.length co63)) (fun _ hk => hk.2) (.slice Ao65 t162.length co65)) (fun _ hk => hk.2) (.bool t165)) (fun _ hk => ⟨hk.1.1, hk.1.2⟩)⟩, ⟨by (with_reducible repeat (first | apply Kd.R_alloc | apply Kd.R_drewN | apply Kd.R_drew)); exact Kd.R_mono (Kd.R_far (p := ⟨gb141, 2, none⟩) (Kd.R_far (p := ⟨gb141, 1, none⟩) (Kd.R_far (p := ⟨gb141, 0, none⟩) (Kd.R_types HO164.out BK141.out (by decide)) (fun _ hk => hk.2) (.slice Ao63 t159.length co63)) (fun _ hk => hk.2) (.slice Ao65 t162.length co65)) (fun _ hk => hk.2) (.bool t165)) (fun _ hk => ⟨hk.1.1, hk.1.2⟩)⟩, ⟨by (with_reducible repeat (first | refine blk_drewN ?_ _ | refine blk_drew ?_ | refine blk_alloc ?_ _)); refine blk_far ?_ NB140_141.out _; (with_reducible repeat (first | refine blk_drewN ?_ _ | refine blk_drew ?_ | refine blk_alloc ?_ _)); refine blk_far ?_ NB140_141.out _; (with_reducible repeat (first | refine blk_drewN ?_ _ | refine blk_drew ?_ | refine blk_alloc ?_ _)); refine blk_far ?_ NB140_141.out _; (with_reducible repeat (first | refine blk_drewN ?_ _ | refine blk_drew ?_ | refine blk_alloc ?_ _)); exact BK140.out⟩, ⟨by (with_reducible repeat (first | refine blk_drewN ?_ _ | refine blk_drew ?_ | refine blk_alloc ?_ _)); refine blk_put (cs := #[.slice Ao63 t159.length co63, .slice Ao65 t162.length co65, .bool x142002_2]) ?_ 2 _ rfl; (with_reducible repeat (first | refine blk_drewN ?_ _ | refine blk_drew ?_ | refine blk_alloc ?_ _)); refine blk_put (cs := #[.slice Ao63 t159.length co63, .slice Ao61 x142001_2.length co61, .bool x142002_2]) ?_ 1 _ rfl; (with_reducible repeat (first | refine blk_drewN ?_ _ | refine blk_drew ?_ | refine blk_alloc ?_ _)); refine blk_put (cs := #[.slice Ao60 x142000_2.length co60, .slice Ao61 x142001_2.length co61, .bool x142002_2]) ?_ 0 _ rfl; (with_reducible repeat (first | refine blk_drewN ?_ _ | refine blk_drew ?_ | refine blk_alloc ?_ _)); exact BK141.out⟩, ⟨by (with_reducible repeat (first | refine blk_drewN ?_ _ | refine blk_drew ?_ | refine blk_alloc ?_ _)); refine blk_far ?_ NB142_141.out _; (with_reducible repeat (first | refine blk_drewN ?_ _ | refine blk_drew ?_ | refine blk_alloc ?_ _)); refine blk_far ?_ NB142_141.out _; (with_reducible repeat (first | refine blk_drewN ?_ _ | refine blk_drew ?_ | refine blk_alloc ?_ _)); refine blk_far ?_ NB142_141.out _; (with_reducible repeat (first | refine blk_drewN ?_ _ | refine blk_drew ?_ | refine blk_alloc ?_ _)); exact BK142.out⟩, ⟨by repeat (first | (with_reducible first | exact HK.out | apply Kept.alloc | apply Kept.drewN | apply Kept.drew | refine Kept.setCell ?_ (.inr GW140.out) _ | refine Kept.setCell ?_ (.inr GW141.out) _ | refine Kept.setCell ?_ (.inr GW142.out) _) | exact HK.out)⟩, ⟨by repeat (first | (with_reducible first | exact HB.out | apply below_alloc | apply pw_below_drewN | apply below_drew1 | refine below_set ?_ GE140.out | refine below_set ?_ GE141.out | refine below_set ?_ GE142.out) | exact HB.out)⟩⟩
                                  · rw [if_neg c54] at H
                                    exact absurd H (by simp)
                                · rw [if_neg c51] at H
                                  exact absurd H (by simp)
                              · rw [if_neg c50] at H
                                exact absurd H (by simp)
                            · replace c49 := Bool.eq_false_iff.mpr c49
                              subst c49
                              have H1 : (spec_l3Step.l1 kj19 x5_1 (rdOf ByteArray.empty x142000_1 x5_1) (rdOf ByteArray.empty x142001_1 x5_1) (wrap64 (x8_2 + 1)) l0_0 x142000_2 x142001_2 x142002_2) = some (r1, r2, r3) := by rw [if_neg (show ¬ (false = true) by decide)] at H; exact H
                              clear H
                              have H := H1
                              clear H1
                              have H' := Aside0.mk H
                              clear H
                              have hnb68 := NB140_141.out
                              have hnc68 := NB141_140.out
                              have hnb69 := NB140_142.out
                              have hnc69 := NB142_140.out
                              have hcz70_0 : wc.cell? ⟨gb140, 0, none⟩ = some (.slice A0_0 l0_0.length c0_0) := (blk_cell BK140.out 0).trans rfl
                              have hfz70_0 := blk_frozen BK140.out 0
                              have p145 : 0 ≤ (x8_2 : Int) := of_decide_eq_true (by first | (with_reducible assumption) | assumption)
                              have q145 : x8_2 < (l0_0.length : Int) := of_decide_eq_true (by first | (with_reducible assumption) | assumption)
                              obtain ⟨ad145, e145, hx145_0⟩ := Kd.at_string (Kd.C_kept_now HR0_0.out HK.out) x8_2 p145 q145
                              cases e145
                              replace p145 := eq_true p145
                              replace q145 := eq_true q145
                              go_wp2_with (first | ((with_reducible refine gate_callee (f := 41) rfl ?_); refine goesL_ (some 44) rfl rfl Tryz.func41 (by kernel_rfl) rfl #[.string (rdOf ByteArray.empty x142000_1 x5_1), .string (rdOf ByteArray.empty l0_0 x8_2)] rfl (by (try simp only [List.map_toArray, List.map_cons, List.map_nil]); first | done | rfl | (simp only [List.length_drop, List.length_take]; rfl)) ?_; (with_reducible refine (spec_l3Begins.calls (rdOf ByteArray.empty x142000_1 x5_1) (rdOf ByteArray.empty l0_0 x8_2) false _ A31.out).mono ?_); rintro e w' ⟨rfl, ⟨nd, rfl⟩⟩; refine ⟨_, rfl, ?_⟩; have p155 : 0 ≤ (x8_2 : Int) := of_decide_eq_true (by first | (with_reducible assumption) | assumption); have q155 : x8_2 < (l0_0.length : Int) := of_decide_eq_true (by first | (with_reducible assumption) | assumption); obtain ⟨ad155, e155, hx155_0⟩ := Kd.at_string (Kd.C_kept_now HR0_0.out HK.out) x8_2 p155 q155; obtain rfl : ad145 = ad155 := (by injection e155); replace p155 := eq_true p155; replace q155 := eq_true q155) | ((with_reducible refine gate_callee (f := 41) rfl ?_); refine goesL_ (some 62) rfl rfl Tryz.func41 (by kernel_rfl) rfl #[.string (rdOf ByteArray.empty l0_0 x8_2), .string (rdOf ByteArray.empty x142000_1 x5_1)] rfl (by (try simp only [List.map_toArray, List.map_cons, List.map_nil]); first | done | rfl | (simp only [List.length_drop, List.length_take]; rfl)) ?_; (with_reducible refine (spec_l3Begins.calls (rdOf ByteArray.empty l0_0 x8_2) (rdOf ByteArray.empty x142000_1 x5_1) false _ A48.out).mono ?_); rintro e w' ⟨rfl, ⟨nd, rfl⟩⟩; refine ⟨_, rfl, ?_⟩))
                              go_roundg kj19
                              case measure => have := HK1.out; have := HK2.out; have := HJ19.out; omega
                              case rel => exact ⟨(wrap64 (x8_2 + 1)), (x142000_2), (x142001_2), (x142002_2), (u142000), (u142001), (by first | rfl | (simp; done) | (simp [*]; done)), H', ⟨by have := HK1.out; have := HK2.out; have := HJ19.out; omega⟩, ⟨by (with_reducible repeat (first | apply Kd.R_alloc | apply Kd.R_drewN | apply Kd.R_drew)); exact HO_142000.out⟩, ⟨by (with_reducible repeat (first | apply Kd.R_alloc | apply Kd.R_drewN | apply Kd.R_drew)); exact HO_142001.out⟩, ⟨by (with_reducible repeat (first | refine blk_drewN ?_ _ | refine blk_drew ?_ | refine blk_alloc ?_ _)); exact BK140.out⟩, ⟨by (with_reducible repeat (first | refine blk_drewN ?_ _ | refine blk_drew ?_ | refine blk_alloc ?_ _)); exact BK141.out⟩, ⟨by (with_reducible repeat (first | refine blk_drewN ?_ _ | refine blk_drew ?_ | refine blk_alloc ?_ _)); exact BK142.out⟩, ⟨by repeat (first | (with_reducible first | exact HK.out | apply Kept.alloc | apply Kept.drewN | apply Kept.drew | refine Kept.setCell ?_ (.inr GW140.out) _ | refine Kept.setCell ?_ (.inr GW141.out) _ | refine Kept.setCell ?_ (.inr GW142.out) _) | exact HK.out)⟩, ⟨by repeat (first | (with_reducible first | exact HB.out | apply below_alloc | apply pw_below_drewN | apply below_drew1 | refine below_set ?_ GE140.out | refine below_set ?_ GE141.out | refine below_set ?_ GE142.out) | exact HB.out)⟩⟩
                        · rw [if_neg c30] at H
                          exact absurd H (by simp)
                      · rw [if_neg c29] at H
                        exact absurd H (by simp)
                    · replace c28 := Bool.eq_false_iff.mpr c28
                      subst c28
                      have H1 : (spec_l3Step.l0 kj19 (wrap64 (x5_1 + 1)) l0_0 x142000_2 x142001_2 x142002_2) = some (r1, r2, r3) := by rw [if_neg (show ¬ (false = true) by decide)] at H; exact H
                      clear H
                      have H := H1
                      clear H1
                      have H' := Aside0.mk H
                      clear H
                      go_wp2
                      go_roundg kj19
                      case measure => have := HK1.out; have := HK2.out; have := HJ19.out; omega
                      case rel => exact ⟨(wrap64 (x5_1 + 1)), (x142000_2), (x142001_2), (x142002_2), (u142000), (u142001), (by first | rfl | (simp; done) | (simp [*]; done)), H', ⟨by have := HK1.out; have := HK2.out; have := HJ19.out; omega⟩, ⟨by (with_reducible repeat (first | apply Kd.R_alloc | apply Kd.R_drewN | apply Kd.R_drew)); exact HO_142000.out⟩, ⟨by (with_reducible repeat (first | apply Kd.R_alloc | apply Kd.R_drewN | apply Kd.R_drew)); exact HO_142001.out⟩, ⟨by (with_reducible repeat (first | refine blk_drewN ?_ _ | refine blk_drew ?_ | refine blk_alloc ?_ _)); exact BK140.out⟩, ⟨by (with_reducible repeat (first | refine blk_drewN ?_ _ | refine blk_drew ?_ | refine blk_alloc ?_ _)); exact BK141.out⟩, ⟨by (with_reducible repeat (first | refine blk_drewN ?_ _ | refine blk_drew ?_ | refine blk_alloc ?_ _)); exact BK142.out⟩, ⟨by repeat (first | (with_reducible first | exact HK.out | apply Kept.alloc | apply Kept.drewN | apply Kept.drew | refine Kept.setCell ?_ (.inr GW140.out) _ | refine Kept.setCell ?_ (.inr GW141.out) _ | refine Kept.setCell ?_ (.inr GW142.out) _) | exact HK.out)⟩, ⟨by repeat (first | (with_reducible first | exact HB.out | apply below_alloc | apply pw_below_drewN | apply below_drew1 | refine below_set ?_ GE140.out | refine below_set ?_ GE141.out | refine below_set ?_ GE142.out) | exact HB.out)⟩⟩
          · rw [if_neg c13] at H
            exact absurd H (by simp)
        · rw [if_neg c12] at H
          exact absurd H (by simp)
      · rw [if_neg c11] at H
        have c11b0 : decide (x5_1 < (x142000_1.length : Int)) = false := decide_eq_false c11
        clear c11
        simp only [Option.some.injEq, Prod.mk.injEq] at H
        obtain ⟨rfl, rfl, rfl⟩ := H
        have hnb71 := NB141_140.out
        have hnc71 := NB140_141.out
        have hnb72 := NB141_142.out
        have hnc72 := NB142_141.out
        have hcz73_0 : wr.cell? ⟨gb141, 0, none⟩ = some (u142000) := (blk_cell BK141.out 0).trans rfl
        have hcz73_1 : wr.cell? ⟨gb141, 1, none⟩ = some (u142001) := (blk_cell BK141.out 1).trans rfl
        have hcz73_2 : wr.cell? ⟨gb141, 2, none⟩ = some (.bool x142002_1) := (blk_cell BK141.out 2).trans rfl
        have hfz73_0 := blk_frozen BK141.out 0
        have hfz73_1 := blk_frozen BK141.out 1
        have hfz73_2 := blk_frozen BK141.out 2
        obtain ⟨Ao74, co74, eo74⟩ := Kd.R_slice HO_142000.out
        subst eo74
        have hnb75 := NB142_140.out
        have hnc75 := NB140_142.out
        have hcz76_0 : wr.cell? ⟨gb142, 0, none⟩ = some (.slice none 0 0) := (blk_cell BK142.out 0).trans rfl
        have hcz76_1 : wr.cell? ⟨gb142, 1, none⟩ = some (.slice none 0 0) := (blk_cell BK142.out 1).trans rfl
        have hcz76_2 : wr.cell? ⟨gb142, 2, none⟩ = some (.bool false) := (blk_cell BK142.out 2).trans rfl
        have hfz76_0 := blk_frozen BK142.out 0
        have hfz76_1 := blk_frozen BK142.out 1
        have hfz76_2 := blk_frozen BK142.out 2
        obtain ⟨Ao77, co77, eo77⟩ := Kd.R_slice HO_142001.out
        subst eo77
        go_wp2
        refine bodyPost_ret (results_cell_row rfl _ _ gb142 52 #[.slice Ao74 x142000_1.length co74, .slice Ao77 x142001_1.length co77, .bool x142002_1] (0, 0) _ rfl (by (with_reducible repeat (first | refine blk_drewN ?_ _ | refine blk_drew ?_ | refine blk_alloc ?_ _)); refine blk_put (cs := #[.slice Ao74 x142000_1.length co74, .slice Ao77 x142001_1.length co77, .bool false]) ?_ 2 _ rfl; (with_reducible repeat (first | refine blk_drewN ?_ _ | refine blk_drew ?_ | refine blk_alloc ?_ _)); refine blk_put (cs := #[.slice Ao74 x142000_1.length co74, .slice none 0 0, .bool false]) ?_ 1 _ rfl; (with_reducible repeat (first | refine blk_drewN ?_ _ | refine blk_drew ?_ | refine blk_alloc ?_ _)); refine blk_put (cs := #[.slice none 0 0, .slice none 0 0, .bool false]) ?_ 0 _ rfl; (with_reducible repeat (first | refine blk_drewN ?_ _ | refine blk_drew ?_ | refine blk_alloc ?_ _)); exact BK142.out) Tryz.underlying52 rfl (by kernel_rfl)) rfl ?_
        exact ⟨_, _, by first | rfl | (simp [errW_none, errW_some] <;> rfl) | (simp [*, errW_none, errW_some] <;> rfl), by (with_reducible repeat (first | apply Kd.R_alloc | apply Kd.R_drewN | apply Kd.R_drew)); exact Kd.R_mono (Kd.R_far (p := ⟨gb142, 2, none⟩) (Kd.R_far (p := ⟨gb142, 1, none⟩) (Kd.R_far (p := ⟨gb142, 0, none⟩) (Kd.R_types HO_142000.out BK142.out (by decide)) (fun _ hk => hk.2) (.slice Ao74 x142000_1.length co74)) (fun _ hk => hk.2) (.slice Ao77 x142001_1.length co77)) (fun _ hk => hk.2) (.bool x142002_1)) (fun _ hk => ⟨hk.1.1, hk.1.2⟩), by (with_reducible repeat (first | apply Kd.R_alloc | apply Kd.R_drewN | apply Kd.R_drew)); exact Kd.R_mono (Kd.R_far (p := ⟨gb142, 2, none⟩) (Kd.R_far (p := ⟨gb142, 1, none⟩) (Kd.R_far (p := ⟨gb142, 0, none⟩) (Kd.R_types HO_142001.out BK142.out (by decide)) (fun _ hk => hk.2) (.slice Ao74 x142000_1.length co74)) (fun _ hk => hk.2) (.slice Ao77 x142001_1.length co77)) (fun _ hk => hk.2) (.bool x142002_1)) (fun _ hk => ⟨hk.1.1, hk.1.2⟩), by repeat (first | (with_reducible first | exact HB.out | apply below_alloc | apply pw_below_drewN | apply below_drew1 | refine below_set ?_ GE140.out | refine below_set ?_ GE141.out | refine below_set ?_ GE142.out) | exact HB.out), by repeat (first | (with_reducible first | exact HK.out | apply Kept.alloc | apply Kept.drewN | apply Kept.drew | refine Kept.setCell ?_ (.inr GW140.out) _ | refine Kept.setCell ?_ (.inr GW141.out) _ | refine Kept.setCell ?_ (.inr GW142.out) _) | exact HK.out)⟩

end Go.Proofs.YtpdojionnmehbaaGreatDoor.HFnExactFirstMisleading
