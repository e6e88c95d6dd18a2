/- What the machine does at each Go function that the law reaches is what the Lean function of its name says. -/
import Derived.Test.YtbdagfdhkobbcaaDoorHFnExactReadLinex0
import Derived.Test.YtbdagfdhkobbcaaDoorHFnExactReadLinex3
namespace Go.Proofs.YtbdagfdhkobbcaaDoor.HFnExactReadLine
open Go.RowKit Go.Proofs.YtbdagfdhkobbcaaDoorW.PrintWords Go.Proofs.YtbdagfdhkobbcaaDoorW.PrintLast Go.Proofs.YtbdagfdhkobbcaaDoorW.PrintMore
attribute [local go_sem] max2_int min2_int max_two min_two max_three min_three max_four min_four   -- for this text's walks alone
set_option linter.unusedVariables false
set_option linter.unusedSimpArgs false

/-! ### spec_l4Inner: function 57 -/
def spec_l4Inner.j0 : Nat → List (S36) → Int → Int → Bool → Option ((List (S36)))
  | 0, _, _, _, _ => none
  | k + 1, x3, x4, x5, x18 => if x18 = true then (if x5 > 1 then (if 0 ≤ (wrap64 (x5 - 1)) then (if (wrap64 (x5 - 1)) < (x3.length : Int) then (if ((rd_T36 x3 (wrap64 (x5 - 1))).f0) = 0 then ((some (([] : List (S36)) : List (S36))).bind fun y155 => (if 1 ≤ (wrap64 (x5 - 1)) then (if (wrap64 (x5 - 1)) ≤ (x3.length : Int) then ((some ((x3.take ((wrap64 (x5 - 1)) : Int).toNat).drop 1 : List (S36))).bind fun y158 => (if y155.length + y158.length < 8796093022208 then (some (y155 ++ y158)) else (none))) else (none)) else (none))) else ((some (([] : List (S36)) : List (S36))).bind fun y165 => (if 1 ≤ x5 then (if x5 ≤ (x3.length : Int) then ((some ((x3.take (x5 : Int).toNat).drop 1 : List (S36))).bind fun y168 => (if y165.length + y168.length < 8796093022208 then (some (y165 ++ y168)) else (none))) else (none)) else (none)))) else (none)) else (none)) else ((some (([] : List (S36)) : List (S36))).bind fun y175 => (if 1 ≤ x5 then (if x5 ≤ (x3.length : Int) then ((some ((x3.take (x5 : Int).toNat).drop 1 : List (S36))).bind fun y178 => (if y175.length + y178.length < 8796093022208 then (some (y175 ++ y178)) else (none))) else (none)) else (none)))) else (if x5 > x4 then (if 0 ≤ (wrap64 (x5 - 1)) then (if (wrap64 (x5 - 1)) < (x3.length : Int) then (if ((rd_T36 x3 (wrap64 (x5 - 1))).f0) = 0 then ((some (([] : List (S36)) : List (S36))).bind fun y186 => (if 0 ≤ x4 then (if x4 ≤ (wrap64 (x5 - 1)) then (if (wrap64 (x5 - 1)) ≤ (x3.length : Int) then ((some ((x3.take ((wrap64 (x5 - 1)) : Int).toNat).drop (x4 : Int).toNat : List (S36))).bind fun y189 => (if y186.length + y189.length < 8796093022208 then (some (y186 ++ y189)) else (none))) else (none)) else (none)) else (none))) else ((some (([] : List (S36)) : List (S36))).bind fun y196 => (if 0 ≤ x4 then (if x4 ≤ x5 then (if x5 ≤ (x3.length : Int) then ((some ((x3.take (x5 : Int).toNat).drop (x4 : Int).toNat : List (S36))).bind fun y199 => (if y196.length + y199.length < 8796093022208 then (some (y196 ++ y199)) else (none))) else (none)) else (none)) else (none)))) else (none)) else (none)) else ((some (([] : List (S36)) : List (S36))).bind fun y206 => (if 0 ≤ x4 then (if x4 ≤ x5 then (if x5 ≤ (x3.length : Int) then ((some ((x3.take (x5 : Int).toNat).drop (x4 : Int).toNat : List (S36))).bind fun y209 => (if y206.length + y209.length < 8796093022208 then (some (y206 ++ y209)) else (none))) else (none)) else (none)) else (none))))
def spec_l4Inner.f (k : Nat) (a0 : ByteArray) : Option ((List (S36))) := (spec_l4Runs.f k a0).bind fun t150 => (if (t150.length : Int) > 0 then (if 0 < (t150.length : Int) then (spec_l4Inner.j0 k t150 0 (t150.length : Int) (((rd_T36 t150 0).f0) == 0)) else (none)) else (spec_l4Inner.j0 k t150 0 (t150.length : Int) false))
theorem spec_l4Inner.mono_l : ∀ k, (∀ y0 y1 y2 y3, LeO (spec_l4Inner.j0 k y0 y1 y2 y3) (spec_l4Inner.j0 (k + 1) y0 y1 y2 y3))
  | 0 => fun _ _ _ _ r h => by simp [spec_l4Inner.j0] at h
  | k + 1 => by
    have ih0 := spec_l4Inner.mono_l k
    · intro y0 y1 y2 y3
      unfold spec_l4Inner.j0
      repeat' first
      | (with_reducible exact ih0 _ _ _ _)
      | (with_reducible exact spec_l4Runs.mono _ _)
      | (with_reducible exact LeO.refl _)
      | (with_reducible exact LeO.none _)
      | (with_reducible refine LeO.ite ?_ ?_)
      | (with_reducible refine LeO.bind ?_ (fun _ => ?_))
      | exact ih0 _ _ _ _
      | exact spec_l4Runs.mono _ _
      | exact LeO.none _
      | refine LeO.ite ?_ ?_
      | refine LeO.bind ?_ (fun _ => ?_)
theorem spec_l4Inner.mono : ∀ a0 k, LeO (spec_l4Inner.f k a0) (spec_l4Inner.f (k + 1) a0) := by
  intro a0 k
  have ih0 := spec_l4Inner.mono_l k
  unfold spec_l4Inner.f
  repeat' first
      | (with_reducible exact ih0 _ _ _ _)
      | (with_reducible exact spec_l4Runs.mono _ _)
      | (with_reducible exact LeO.refl _)
      | (with_reducible exact LeO.none _)
      | (with_reducible refine LeO.ite ?_ ?_)
      | (with_reducible refine LeO.bind ?_ (fun _ => ?_))
      | exact ih0 _ _ _ _
      | exact spec_l4Runs.mono _ _
      | exact LeO.none _
      | refine LeO.ite ?_ ?_
      | refine LeO.bind ?_ (fun _ => ?_)
set_option maxHeartbeats 8000000 in
set_option maxRecDepth 100000 in
theorem spec_l4Inner.calls (k : Nat) (a0 : ByteArray) (r : List (S36)) (w : World) (h : spec_l4Inner.f k a0 = some r) :
    Calls Tryd.prog 57 #[.string a0] w fun e w' => ∃ v0_ : Value, e = .returned (v0_) ∧ Kd.R k36 36 w' w.heap.size (fun _ => True) v0_ r ∧ Below w.heap.size w w' := by
  have HB := Aside0.mk (Below.refl w.heap.size w)
  have H : ((spec_l4Runs.f k a0).bind fun t150 => (if (t150.length : Int) > 0 then (if 0 < (t150.length : Int) then (spec_l4Inner.j0 k t150 0 (t150.length : Int) (((rd_T36 t150 0).f0) == 0)) else (none)) else (spec_l4Inner.j0 k t150 0 (t150.length : Int) false))) = some r := h
  clear h
  replace H := Option.bind_eq_some_iff.mp H
  obtain ⟨t150, A20, H⟩ := H
  replace H : (if (t150.length : Int) > 0 then (if 0 < (t150.length : Int) then (spec_l4Inner.j0 k t150 0 (t150.length : Int) (((rd_T36 t150 0).f0) == 0)) else (none)) else (spec_l4Inner.j0 k t150 0 (t150.length : Int) false)) = some r := H
  have A2 := Aside0.mk A20
  clear A20
  have HC3 := Aside0.mk H
  clear H
  go_enter Tryd.func57, Tryd.ntmps57
  go_upto_region 3 with (first | ((with_reducible refine gate_callee (f := 54) rfl ?_); refine goesL_ (some 7) rfl rfl Tryd.func54 (by kernel_rfl) rfl #[.string a0] rfl (by (try simp only [List.map_toArray, List.map_cons, List.map_nil]); first | done | rfl | (simp only [List.length_drop, List.length_take]; rfl)) ?_; (with_reducible refine (spec_l4Runs.calls k a0 t150 _ A2.out).mono ?_); rintro e w4 ⟨v151, rfl, ho0, hb⟩; refine ⟨_, rfl, ?_⟩; have n0_ := Aside0.mk (Kd.R_lower ho0 (below_size (by repeat (first | (with_reducible first | exact HB.out | apply below_alloc | apply pw_below_drewN | apply below_drew1) | exact HB.out)))); have n1_ := Aside0.mk (below_step (by repeat (first | (with_reducible first | exact HB.out | apply below_alloc | apply pw_below_drewN | apply below_drew1) | exact HB.out)) hb); clear HB; have HO152 := n0_; have HB := n1_; clear n0_ n1_; (try clear hb); (try clear hb2); (try clear hk); (try clear hi); (try clear ho0); obtain ⟨Ao5, co5, eo5⟩ := Kd.R_slice HO152.out; subst eo5))
  (try simp only [Act.put, List.setIfInBounds_toArray, List.set_cons_zero, List.set_cons_succ])
  go_cut [18] (fun v18 wc => ∃ (kq : Nat) (x18_2 : Bool), v18 = .bool x18_2 ∧ Aside0 (spec_l4Inner.j0 kq t150 0 (t150.length : Int) x18_2 = some r) ∧ Aside0 (kq ≤ k) ∧ Aside0 (Kd.R k36 36 wc w.heap.size (fun _ => True) (.slice Ao5 t150.length co5) t150) ∧ Aside0 (Below w.heap.size w wc))
  case first =>
    have H := HC3.out
    clear HC3
    by_cases c6 : (t150.length : Int) > 0
    · rw [if_pos c6] at H
      have c6b0 : decide (0 < (t150.length : Int)) = true := decide_eq_true c6
      have c6b1 : decide (0 < t150.length) = true := decide_eq_true (by omega)
      clear c6
      (first | rw [c6b0] | (simp only [i64_w, i32_w]; rw [c6b0]) | skip)
      by_cases c7 : 0 < (t150.length : Int)
      · rw [if_pos c7] at H
        have c7b0 : decide (0 < (t150.length : Int)) = true := decide_eq_true c7
        have c7b1 : decide (0 < t150.length) = true := decide_eq_true (by omega)
        clear c7
        have H' := Aside0.mk H
        clear H
        have p153 : 0 ≤ (0 : Int) := (by omega)
        have q153 : 0 < (t150.length : Int) := of_decide_eq_true (by first | (with_reducible assumption) | assumption)
        obtain ⟨ad153, e153, hx153_0, hx153_1⟩ := at_T36 (Kd.R_reads' HO152.out).2.2 0 p153 q153
        cases e153
        have qi153 : (0 < t150.length) = True := eq_true (by omega)
        (try rw [show ((0 : Int)).toNat = 0 from rfl] at hx153_0)
        (try rw [show 0 * 2 = 0 from rfl] at hx153_0)
        (try rw [Addr.add_zero'] at hx153_0)
        (try rw [show ((0 : Int)).toNat = 0 from rfl] at hx153_1)
        (try rw [show 0 * 2 = 0 from rfl] at hx153_1)
        (try rw [Addr.add_zero'] at hx153_1)
        replace p153 := eq_true p153
        replace q153 := eq_true q153
        go_wp2
        go_meet
        case rel => exact ⟨_, ((((rd_T36 t150 0).f0) == 0)), (by first | rfl | (simp; done) | (simp [*]; done)), H', ⟨by first | omega | exact Nat.le_refl _⟩, ⟨by (with_reducible repeat (first | apply Kd.R_alloc | apply Kd.R_drewN | apply Kd.R_drew)); exact HO152.out⟩, ⟨by repeat (first | (with_reducible first | exact HB.out | apply below_alloc | apply pw_below_drewN | apply below_drew1) | exact HB.out)⟩⟩
      · rw [if_neg c7] at H
        exact absurd H (by simp)
    · rw [if_neg c6] at H
      have c6b0 : decide (0 < (t150.length : Int)) = false := decide_eq_false c6
      have c6b1 : decide (0 < t150.length) = false := decide_eq_false (by omega)
      clear c6
      (first | rw [c6b0] | (simp only [i64_w, i32_w]; rw [c6b0]) | skip)
      have H' := Aside0.mk H
      clear H
      go_wp2
      go_meet
      case rel => exact ⟨_, (false), (by first | rfl | (simp; done) | (simp [*]; done)), H', ⟨by first | omega | exact Nat.le_refl _⟩, ⟨by (with_reducible repeat (first | apply Kd.R_alloc | apply Kd.R_drewN | apply Kd.R_drew)); exact HO152.out⟩, ⟨by repeat (first | (with_reducible first | exact HB.out | apply below_alloc | apply pw_below_drewN | apply below_drew1) | exact HB.out)⟩⟩
  case rest =>
    clear HC3
    try clear p1
    try clear q1
    try clear hx1
    try clear qi1
    try clear p2
    try clear c5
    try clear c6
    try clear c6b0
    try clear c6b1
    try clear c7
    try clear c7b0
    try clear c7b1
    try clear hx153_0
    try clear hx153_1
    try clear p153
    try clear q153
    obtain ⟨kq, x18_2, rfl, HA, HJ2, HO_3, HB⟩ := hcut
    cases kq with
    | zero => exact absurd HA.out (by simp [spec_l4Inner.j0])
    | succ kj2 =>
      have H := HA.out
      clear HA
      simp only [spec_l4Inner.j0] at H
      by_cases c8 : x18_2 = true
      · subst c8
        have H1 : (if (t150.length : Int) > 1 then (if 0 ≤ (wrap64 ((t150.length : Int) - 1)) then (if (wrap64 ((t150.length : Int) - 1)) < (t150.length : Int) then (if ((rd_T36 t150 (wrap64 ((t150.length : Int) - 1))).f0) = 0 then ((some (([] : List (S36)) : List (S36))).bind fun y155 => (if 1 ≤ (wrap64 ((t150.length : Int) - 1)) then (if (wrap64 ((t150.length : Int) - 1)) ≤ (t150.length : Int) then ((some ((t150.take ((wrap64 ((t150.length : Int) - 1)) : Int).toNat).drop 1 : List (S36))).bind fun y158 => (if y155.length + y158.length < 8796093022208 then (some (y155 ++ y158)) else (none))) else (none)) else (none))) else ((some (([] : List (S36)) : List (S36))).bind fun y165 => (if 1 ≤ (t150.length : Int) then (if (t150.length : Int) ≤ (t150.length : Int) then ((some ((t150.take ((t150.length : Int) : Int).toNat).drop 1 : List (S36))).bind fun y168 => (if y165.length + y168.length < 8796093022208 then (some (y165 ++ y168)) else (none))) else (none)) else (none)))) else (none)) else (none)) else ((some (([] : List (S36)) : List (S36))).bind fun y175 => (if 1 ≤ (t150.length : Int) then (if (t150.length : Int) ≤ (t150.length : Int) then ((some ((t150.take ((t150.length : Int) : Int).toNat).drop 1 : List (S36))).bind fun y178 => (if y175.length + y178.length < 8796093022208 then (some (y175 ++ y178)) else (none))) else (none)) else (none)))) = some r := by rw [if_pos rfl] at H; exact H
        clear H
        have H := H1
        clear H1
        by_cases c9 : (t150.length : Int) > 1
        · rw [if_pos c9] at H
          have c9b0 : decide (1 < (t150.length : Int)) = true := decide_eq_true c9
          have c9b1 : decide (1 < t150.length) = true := decide_eq_true (by omega)
          clear c9
          obtain ⟨ji10, hji10⟩ : ∃ j_ : Int, (wrap64 ((t150.length : Int) - 1)) = j_ := ⟨_, rfl⟩
          replace H : (if 0 ≤ (ji10) then (if (ji10) < (t150.length : Int) then (if ((rd_T36 t150 (ji10)).f0) = 0 then ((some (([] : List (S36)) : List (S36))).bind fun y155 => (if 1 ≤ (ji10) then (if (ji10) ≤ (t150.length : Int) then ((some ((t150.take ((ji10) : Int).toNat).drop 1 : List (S36))).bind fun y158 => (if y155.length + y158.length < 8796093022208 then (some (y155 ++ y158)) else (none))) else (none)) else (none))) else ((some (([] : List (S36)) : List (S36))).bind fun y165 => (if 1 ≤ (t150.length : Int) then (if (t150.length : Int) ≤ (t150.length : Int) then ((some ((t150.take ((t150.length : Int) : Int).toNat).drop 1 : List (S36))).bind fun y168 => (if y165.length + y168.length < 8796093022208 then (some (y165 ++ y168)) else (none))) else (none)) else (none)))) else (none)) else (none)) = some r := by first | (rw [hji10] at H; exact H) | (simp only [hji10] at H ⊢; exact H)
          have hji10w : (IntKind.i64.wrap ((t150.length : Int) - 1)) = ji10 := (i64_w _).trans hji10
          by_cases c11 : 0 ≤ (ji10)
          · rw [if_pos c11] at H
            have c11b0 : decide (0 ≤ (ji10)) = true := decide_eq_true c11
            clear c11
            by_cases c12 : (ji10) < (t150.length : Int)
            · rw [if_pos c12] at H
              have c12b0 : decide ((ji10) < (t150.length : Int)) = true := decide_eq_true c12
              clear c12
              by_cases c13 : ((rd_T36 t150 (ji10)).f0) = 0
              · rw [if_pos c13] at H
                have c13b0 : (((rd_T36 t150 (ji10)).f0) == 0) = true := beq_iff_eq.mpr c13
                have c13b1 : (((rd_T36 t150 (ji10)).f0) != 0) = false := bne_eq_false_iff_eq.mpr c13
                clear c13
                obtain ⟨y155, hy155⟩ : ∃ y_ : List (S36), y_ = (([] : List (S36))) := ⟨_, rfl⟩
                replace H : (if 1 ≤ (ji10) then (if (ji10) ≤ (t150.length : Int) then ((some ((t150.take ((ji10) : Int).toNat).drop 1 : List (S36))).bind fun y158 => (if y155.length + y158.length < 8796093022208 then (some (y155 ++ y158)) else (none))) else (none)) else (none)) = some r := by first | (rw [hy155]; with_reducible exact H) | (have H2_ := (Option.bind_some _ _).symm.trans H; rw [hy155]; with_reducible exact H2_) | (have H2_ := (Option.bind_some _ _).symm.trans H; with_reducible exact H2_) | with_reducible exact H | (rw [hy155]; exact H) | exact H
                have Ny155 := Aside0.mk hy155
                clear hy155
                by_cases c14 : 1 ≤ (ji10)
                · rw [if_pos c14] at H
                  have c14b0 := eq_true c14
                  have c14b1 : decide (1 ≤ (ji10)) = true := decide_eq_true c14
                  clear c14
                  by_cases c15 : (ji10) ≤ (t150.length : Int)
                  · rw [if_pos c15] at H
                    have c15b0 := eq_true c15
                    have c15b1 : decide ((ji10) ≤ (t150.length : Int)) = true := decide_eq_true c15
                    clear c15
                    obtain ⟨y158, hy158⟩ : ∃ y_ : List (S36), y_ = ((t150.take ((ji10) : Int).toNat).drop 1) := ⟨_, rfl⟩
                    replace H : (if y155.length + y158.length < 8796093022208 then (some (y155 ++ y158)) else (none)) = some r := by first | (rw [hy158]; with_reducible exact H) | (have H2_ := (Option.bind_some _ _).symm.trans H; rw [hy158]; with_reducible exact H2_) | (have H2_ := (Option.bind_some _ _).symm.trans H; with_reducible exact H2_) | with_reducible exact H | (rw [hy158]; exact H) | exact H
                    have Ny158 := Aside0.mk hy158
                    clear hy158
                    by_cases c16 : y155.length + y158.length < 8796093022208
                    · rw [if_pos c16] at H
                      have LMc16 := Aside0.mk c16
                      clear c16
                      obtain ⟨y162, hy162⟩ : ∃ y_ : List (S36), y_ = (y155 ++ y158) := ⟨_, rfl⟩
                      replace H : (some y162) = some r := by first | (rw [hy162]; with_reducible exact H) | (have H2_ := (Option.bind_some _ _).symm.trans H; rw [hy162]; with_reducible exact H2_) | (have H2_ := (Option.bind_some _ _).symm.trans H; with_reducible exact H2_) | with_reducible exact H | (rw [hy162]; exact H) | exact H
                      have Ny162 := Aside0.mk hy162
                      clear hy162
                      obtain rfl := Option.some.inj H
                      have p154 : 0 ≤ ((ji10) : Int) := of_decide_eq_true (by first | (with_reducible assumption) | assumption)
                      have q154 : (ji10) < (t150.length : Int) := of_decide_eq_true (by first | (with_reducible assumption) | assumption)
                      obtain ⟨ad154, e154, hx154_0, hx154_1⟩ := at_T36 (Kd.R_reads' HO_3.out).2.2 (ji10) p154 q154
                      cases e154
                      replace p154 := eq_true p154
                      replace q154 := eq_true q154
                      go_wp2_with (first | ((with_reducible refine gate_dst (N := 33) rfl ?_); refine Kd.R_lit k36 _ 36 ?hg (N := 33) ?hd (xs := ([] : List (S36))) (inner := []) (ok := fun _ => True) (okp := fun _ => True) ?hr ?hp (fun _ hk => hk) trivial (Below.refl _ _) (Nat.le_refl _) (by simp) ?_; (case hd => rfl); (case hg => rfl); (case hr => first | (go_simp; done) | (go_simp; rfl)); (case hp => exact (Reps.none _ _)); intro v156 w17 ho18 hb hg_ hnew_; clear hg_ hnew_; (first | rw [← Ny155.out] at ho18 | (simp only [Int.reduceToNat] at ho18; rw [← Ny155.out] at ho18)); have n0_ := Aside0.mk (Kd.R_elder' (by (with_reducible repeat (first | apply Kd.R_alloc | apply Kd.R_drewN | apply Kd.R_drew)); exact HO_3.out) (Kd.R_base ho18) hb); have n1_ := Aside0.mk (Kd.R_lower (Kd.R_new' ho18 (Kd.R_lt (by (with_reducible repeat (first | apply Kd.R_alloc | apply Kd.R_drewN | apply Kd.R_drew)); exact HO_3.out))) (below_size (by repeat (first | (with_reducible first | exact HB.out | apply below_alloc | apply pw_below_drewN | apply below_drew1) | exact HB.out)))); have n2_ := Aside0.mk (below_step (by repeat (first | (with_reducible first | exact HB.out | apply below_alloc | apply pw_below_drewN | apply below_drew1) | exact HB.out)) hb); clear HO_3; clear HB; have HO_3 := n0_; have HO157 := n1_; have HB := n2_; clear n0_ n1_ n2_; clear hb ho18; have q19 : ((ji10) : Int) ≤ ((t150.length : Int) : Int) := of_decide_eq_true (by first | (with_reducible assumption) | assumption); obtain ⟨i019, hi019, _, hsz19, _⟩ := info_parts info36; have hroom19 : t150.length ≤ co5 := (Kd.R_reads' HO_3.out).2.1; have hC19 : Kd.C k36 _ (some ad154) t150.length t150 := (Kd.R_reads' HO_3.out).2.2; have ql19 : (1 : Int) ≤ ((ji10) : Int) := of_decide_eq_true (by first | (with_reducible assumption) | assumption); have hcut19 := cut_mid (P := Tryd.prog) 54 36 .i64 .i64 Tryd.underlying54 hi019 2 hsz19 (some ad154) t150.length co5 1 (ji10) (by omega) ql19 q19 hroom19; have hr19 := Kd.C_mid (lo := (1 : Int).toNat) (hi := ((ji10) : Int).toNat) (c := co5) hC19 (by omega) (by omega) hroom19; obtain ⟨A19, hA19⟩ : ∃ A1, A1 = (if co5 = (1 : Int).toNat then (some ad154) else ((some ad154) : Option Addr).map (·.add ((1 : Int).toNat * 2))) := ⟨_, rfl⟩; obtain ⟨c19, hc19⟩ : ∃ c1, c1 = co5 - (1 : Int).toNat := ⟨_, rfl⟩; have hy19 : y158.length = ((ji10) : Int).toNat - (1 : Int).toNat := (by rw [Ny158.out, List.length_drop, List.length_take] <;> omega); rw [show ((t150).take ((ji10) : Int).toNat).drop (1 : Int).toNat = y158 from Ny158.out.symm] at hr19; replace hr19 : Kd.C k36 _ A19 y158.length y158 := (by rw [hA19]; exact hr19); rw [← hy19, ← hA19, ← hc19] at hcut19; have HR161 := Aside0.mk hr19; have HC161 := Aside0.mk (show y158.length ≤ c19 from by rw [hy19, hc19]; exact Nat.sub_le_sub_right (Nat.le_trans (by omega) hroom19) _); clear hr19 hC19 hroom19 hi019 hsz19 hc19; have KY19 := Aside0.mk hy19; have KA19 := Aside0.mk hA19; clear hy19 hA19; have KL19 := Aside0.mk (show ((ji10) : Int).toNat ≤ t150.length from by omega); have KM19 := Aside0.mk (show 1 ≤ ((ji10) : Int).toNat from by omega); replace q19 := eq_true q19) | ((with_reducible refine gate_builtin (b := .append) (xs := #[.tmp 33, .tmp 37]) rfl ?_); at_builtin; refine Kd.R_append_rows k36 (w0 := w) w.heap.size rfl (.tmp 33) (.tmp 37) 54 36 (.agg #[(.int .i64 0), (.int .i64 0)]) 16 rfl Tryd.underlying54 info36 rfl (by decide) (by omega) v156 y155 y158 _ _ _ (fun k_ => some k_ ≠ (.slice (some ad154) t150.length co5 : Value).ownBlock) (fun _ => False) rfl rfl ?aO ?aR (fun _ _ h => h) (fun _ h => h.elim) ?aF ?aB ?aS ?aL ?_; (case aR => repeat (first | exact (by repeat (first | (with_reducible exact HR161.out) | (with_reducible refine Kd.C_alloc ?_ _) | (with_reducible refine Kd.C_drewN ?_ _) | (with_reducible refine Kd.C_drew ?_) | exact HR161.out)) | (with_reducible refine Kd.C_alloc ?_ _) | (with_reducible refine Kd.C_drewN ?_ _) | (with_reducible refine Kd.C_drew ?_))); (case aB => exact (by repeat (first | (with_reducible first | exact HB.out | apply below_alloc | apply pw_below_drewN | apply below_drew1) | exact HB.out))); (case aF => exact (fun k_ hk => Kd.fresh' (Kd.R_lt (by (with_reducible repeat (first | apply Kd.R_alloc | apply Kd.R_drewN | apply Kd.R_drew)); exact HO_3.out)) k_ hk)); (case aO => exact (by (with_reducible repeat (first | apply Kd.R_alloc | apply Kd.R_drewN | apply Kd.R_drew)); exact Kd.R_mono HO157.out (fun _ hk => hk.2))); (case aS => exact (below_size (by repeat (first | (with_reducible first | exact HB.out | apply below_alloc | apply pw_below_drewN | apply below_drew1) | exact HB.out)))); (case aL => have := LMc16.out; omega); intro v163 w20 ho hb hg hat; rw [← Ny162.out] at ho; have n0_ := Aside0.mk (Kd.R_after (ok := (fun _ => True)) (by (with_reducible repeat (first | apply Kd.R_alloc | apply Kd.R_drewN | apply Kd.R_drew)); exact HO_3.out) hg hat); have n1_ := Aside0.mk (hb); have n2_ := Aside0.mk ((show Kd.C k36 w20 A19 y158.length y158 from by rw [Ny158.out, KA19.out]; exact Kd.C_mid (lo := 1) (hi := ((ji10) : Int).toNat) (c := co5) ((Kd.R_reads' (Kd.R_after (ok := (fun _ => True)) (by (with_reducible repeat (first | apply Kd.R_alloc | apply Kd.R_drewN | apply Kd.R_drew)); exact HO_3.out) hg hat)).2.2) KM19.out KL19.out ((Kd.R_reads' (Kd.R_after (ok := (fun _ => True)) (by (with_reducible repeat (first | apply Kd.R_alloc | apply Kd.R_drewN | apply Kd.R_drew)); exact HO_3.out) hg hat)).2.1))); have n3_ := Aside0.mk (ho); clear HO_3; clear HB; clear HR161; clear HO157; have HO_3 := n0_; have HB := n1_; have HR161 := n2_; have HO164 := n3_; clear n0_ n1_ n2_ n3_; clear ho hb hg hat))
                      go_ret
                      exact ⟨_, by first | rfl | (simp [errW_none, errW_some] <;> rfl) | (simp only [← hji10]; first | rfl | (simp [errW_none, errW_some] <;> rfl)) | (simp [*, errW_none, errW_some] <;> rfl), by (with_reducible repeat (first | apply Kd.R_alloc | apply Kd.R_drewN | apply Kd.R_drew)); exact Kd.R_mono HO164.out (fun _ hk => trivial), by repeat (first | (with_reducible first | exact HB.out | apply below_alloc | apply pw_below_drewN | apply below_drew1) | exact HB.out)⟩
                    · rw [if_neg c16] at H
                      exact absurd H (by simp)
                  · rw [if_neg c15] at H
                    exact absurd H (by simp)
                · rw [if_neg c14] at H
                  exact absurd H (by simp)
              · rw [if_neg c13] at H
                have c13b0 : (((rd_T36 t150 (ji10)).f0) == 0) = false := beq_eq_false_iff_ne.mpr c13
                have c13b1 : (((rd_T36 t150 (ji10)).f0) != 0) = true := bne_iff_ne.mpr c13
                obtain ⟨y165, hy165⟩ : ∃ y_ : List (S36), y_ = (([] : List (S36))) := ⟨_, rfl⟩
                replace H : (if 1 ≤ (t150.length : Int) then (if (t150.length : Int) ≤ (t150.length : Int) then ((some ((t150.take ((t150.length : Int) : Int).toNat).drop 1 : List (S36))).bind fun y168 => (if y165.length + y168.length < 8796093022208 then (some (y165 ++ y168)) else (none))) else (none)) else (none)) = some r := by first | (rw [hy165]; with_reducible exact H) | (have H2_ := (Option.bind_some _ _).symm.trans H; rw [hy165]; with_reducible exact H2_) | (have H2_ := (Option.bind_some _ _).symm.trans H; with_reducible exact H2_) | with_reducible exact H | (rw [hy165]; exact H) | exact H
                have Ny165 := Aside0.mk hy165
                clear hy165
                by_cases c21 : 1 ≤ (t150.length : Int)
                · rw [if_pos c21] at H
                  have c21b0 := eq_true c21
                  have c21b1 : decide (1 ≤ (t150.length : Int)) = true := decide_eq_true c21
                  clear c21
                  by_cases c22 : (t150.length : Int) ≤ (t150.length : Int)
                  · rw [if_pos c22] at H
                    have c22b0 := eq_true c22
                    have c22b1 : decide ((t150.length : Int) ≤ (t150.length : Int)) = true := decide_eq_true c22
                    clear c22
                    obtain ⟨y168, hy168⟩ : ∃ y_ : List (S36), y_ = ((t150.take ((t150.length : Int) : Int).toNat).drop 1) := ⟨_, rfl⟩
                    replace H : (if y165.length + y168.length < 8796093022208 then (some (y165 ++ y168)) else (none)) = some r := by first | (rw [hy168]; with_reducible exact H) | (have H2_ := (Option.bind_some _ _).symm.trans H; rw [hy168]; with_reducible exact H2_) | (have H2_ := (Option.bind_some _ _).symm.trans H; with_reducible exact H2_) | with_reducible exact H | (rw [hy168]; exact H) | exact H
                    have Ny168 := Aside0.mk hy168
                    clear hy168
                    by_cases c23 : y165.length + y168.length < 8796093022208
                    · rw [if_pos c23] at H
                      have LMc23 := Aside0.mk c23
                      clear c23
                      obtain ⟨y172, hy172⟩ : ∃ y_ : List (S36), y_ = (y165 ++ y168) := ⟨_, rfl⟩
                      replace H : (some y172) = some r := by first | (rw [hy172]; with_reducible exact H) | (have H2_ := (Option.bind_some _ _).symm.trans H; rw [hy172]; with_reducible exact H2_) | (have H2_ := (Option.bind_some _ _).symm.trans H; with_reducible exact H2_) | with_reducible exact H | (rw [hy172]; exact H) | exact H
                      have Ny172 := Aside0.mk hy172
                      clear hy172
                      obtain rfl := Option.some.inj H
                      have p154 : 0 ≤ ((ji10) : Int) := of_decide_eq_true (by first | (with_reducible assumption) | assumption)
                      have q154 : (ji10) < (t150.length : Int) := of_decide_eq_true (by first | (with_reducible assumption) | assumption)
                      obtain ⟨ad154, e154, hx154_0, hx154_1⟩ := at_T36 (Kd.R_reads' HO_3.out).2.2 (ji10) p154 q154
                      cases e154
                      replace p154 := eq_true p154
                      replace q154 := eq_true q154
                      go_wp2_with (first | ((with_reducible refine gate_dst (N := 33) rfl ?_); refine Kd.R_lit k36 _ 36 ?hg (N := 33) ?hd (xs := ([] : List (S36))) (inner := []) (ok := fun _ => True) (okp := fun _ => True) ?hr ?hp (fun _ hk => hk) trivial (Below.refl _ _) (Nat.le_refl _) (by simp) ?_; (case hd => rfl); (case hg => rfl); (case hr => first | (go_simp; done) | (go_simp; rfl)); (case hp => exact (Reps.none _ _)); intro v166 w24 ho25 hb hg_ hnew_; clear hg_ hnew_; (first | rw [← Ny165.out] at ho25 | (simp only [Int.reduceToNat] at ho25; rw [← Ny165.out] at ho25)); have n0_ := Aside0.mk (Kd.R_elder' (by (with_reducible repeat (first | apply Kd.R_alloc | apply Kd.R_drewN | apply Kd.R_drew)); exact HO_3.out) (Kd.R_base ho25) hb); have n1_ := Aside0.mk (Kd.R_lower (Kd.R_new' ho25 (Kd.R_lt (by (with_reducible repeat (first | apply Kd.R_alloc | apply Kd.R_drewN | apply Kd.R_drew)); exact HO_3.out))) (below_size (by repeat (first | (with_reducible first | exact HB.out | apply below_alloc | apply pw_below_drewN | apply below_drew1) | exact HB.out)))); have n2_ := Aside0.mk (below_step (by repeat (first | (with_reducible first | exact HB.out | apply below_alloc | apply pw_below_drewN | apply below_drew1) | exact HB.out)) hb); clear HO_3; clear HB; have HO_3 := n0_; have HO167 := n1_; have HB := n2_; clear n0_ n1_ n2_; clear hb ho25; have q26 : ((t150.length : Int) : Int) ≤ ((t150.length : Int) : Int) := of_decide_eq_true (by first | (with_reducible assumption) | assumption); obtain ⟨i026, hi026, _, hsz26, _⟩ := info_parts info36; have hroom26 : t150.length ≤ co5 := (Kd.R_reads' HO_3.out).2.1; have hC26 : Kd.C k36 _ (some ad154) t150.length t150 := (Kd.R_reads' HO_3.out).2.2; have ql26 : (1 : Int) ≤ ((t150.length : Int) : Int) := of_decide_eq_true (by first | (with_reducible assumption) | assumption); have hcut26 := cut_mid (P := Tryd.prog) 54 36 .i64 .i64 Tryd.underlying54 hi026 2 hsz26 (some ad154) t150.length co5 1 (t150.length : Int) (by omega) ql26 q26 hroom26; have hr26 := Kd.C_mid (lo := (1 : Int).toNat) (hi := ((t150.length : Int) : Int).toNat) (c := co5) hC26 (by omega) (by omega) hroom26; obtain ⟨A26, hA26⟩ : ∃ A1, A1 = (if co5 = (1 : Int).toNat then (some ad154) else ((some ad154) : Option Addr).map (·.add ((1 : Int).toNat * 2))) := ⟨_, rfl⟩; obtain ⟨c26, hc26⟩ : ∃ c1, c1 = co5 - (1 : Int).toNat := ⟨_, rfl⟩; have hy26 : y168.length = ((t150.length : Int) : Int).toNat - (1 : Int).toNat := (by rw [Ny168.out, List.length_drop, List.length_take] <;> omega); rw [show ((t150).take ((t150.length : Int) : Int).toNat).drop (1 : Int).toNat = y168 from Ny168.out.symm] at hr26; replace hr26 : Kd.C k36 _ A26 y168.length y168 := (by rw [hA26]; exact hr26); rw [← hy26, ← hA26, ← hc26] at hcut26; have HR171 := Aside0.mk hr26; have HC171 := Aside0.mk (show y168.length ≤ c26 from by rw [hy26, hc26]; exact Nat.sub_le_sub_right (Nat.le_trans (by omega) hroom26) _); clear hr26 hC26 hroom26 hi026 hsz26 hc26; have KY26 := Aside0.mk hy26; have KA26 := Aside0.mk hA26; clear hy26 hA26; have KL26 := Aside0.mk (show ((t150.length : Int) : Int).toNat ≤ t150.length from by omega); have KM26 := Aside0.mk (show 1 ≤ ((t150.length : Int) : Int).toNat from by omega); replace q26 := eq_true q26) | ((with_reducible refine gate_builtin (b := .append) (xs := #[.tmp 33, .tmp 37]) rfl ?_); at_builtin; refine Kd.R_append_rows k36 (w0 := w) w.heap.size rfl (.tmp 33) (.tmp 37) 54 36 (.agg #[(.int .i64 0), (.int .i64 0)]) 16 rfl Tryd.underlying54 info36 rfl (by decide) (by omega) v166 y165 y168 _ _ _ (fun k_ => some k_ ≠ (.slice (some ad154) t150.length co5 : Value).ownBlock) (fun _ => False) rfl rfl ?aO ?aR (fun _ _ h => h) (fun _ h => h.elim) ?aF ?aB ?aS ?aL ?_; (case aR => repeat (first | exact (by repeat (first | (with_reducible exact HR171.out) | (with_reducible refine Kd.C_alloc ?_ _) | (with_reducible refine Kd.C_drewN ?_ _) | (with_reducible refine Kd.C_drew ?_) | exact HR171.out)) | (with_reducible refine Kd.C_alloc ?_ _) | (with_reducible refine Kd.C_drewN ?_ _) | (with_reducible refine Kd.C_drew ?_))); (case aB => exact (by repeat (first | (with_reducible first | exact HB.out | apply below_alloc | apply pw_below_drewN | apply below_drew1) | exact HB.out))); (case aF => exact (fun k_ hk => Kd.fresh' (Kd.R_lt (by (with_reducible repeat (first | apply Kd.R_alloc | apply Kd.R_drewN | apply Kd.R_drew)); exact HO_3.out)) k_ hk)); (case aO => exact (by (with_reducible repeat (first | apply Kd.R_alloc | apply Kd.R_drewN | apply Kd.R_drew)); exact Kd.R_mono HO167.out (fun _ hk => hk.2))); (case aS => exact (below_size (by repeat (first | (with_reducible first | exact HB.out | apply below_alloc | apply pw_below_drewN | apply below_drew1) | exact HB.out)))); (case aL => have := LMc23.out; omega); intro v173 w27 ho hb hg hat; rw [← Ny172.out] at ho; have n0_ := Aside0.mk (Kd.R_after (ok := (fun _ => True)) (by (with_reducible repeat (first | apply Kd.R_alloc | apply Kd.R_drewN | apply Kd.R_drew)); exact HO_3.out) hg hat); have n1_ := Aside0.mk (hb); have n2_ := Aside0.mk ((show Kd.C k36 w27 A26 y168.length y168 from by rw [Ny168.out, KA26.out]; exact Kd.C_mid (lo := 1) (hi := ((t150.length : Int) : Int).toNat) (c := co5) ((Kd.R_reads' (Kd.R_after (ok := (fun _ => True)) (by (with_reducible repeat (first | apply Kd.R_alloc | apply Kd.R_drewN | apply Kd.R_drew)); exact HO_3.out) hg hat)).2.2) KM26.out KL26.out ((Kd.R_reads' (Kd.R_after (ok := (fun _ => True)) (by (with_reducible repeat (first | apply Kd.R_alloc | apply Kd.R_drewN | apply Kd.R_drew)); exact HO_3.out) hg hat)).2.1))); have n3_ := Aside0.mk (ho); clear HO_3; clear HB; clear HR171; clear HO167; have HO_3 := n0_; have HB := n1_; have HR171 := n2_; have HO174 := n3_; clear n0_ n1_ n2_ n3_; clear ho hb hg hat))
                      go_ret
                      exact ⟨_, by first | rfl | (simp [errW_none, errW_some] <;> rfl) | (simp only [← hji10]; first | rfl | (simp [errW_none, errW_some] <;> rfl)) | (simp [*, errW_none, errW_some] <;> rfl), by (with_reducible repeat (first | apply Kd.R_alloc | apply Kd.R_drewN | apply Kd.R_drew)); exact Kd.R_mono HO174.out (fun _ hk => trivial), by repeat (first | (with_reducible first | exact HB.out | apply below_alloc | apply pw_below_drewN | apply below_drew1) | exact HB.out)⟩
                    · rw [if_neg c23] at H
                      exact absurd H (by simp)
                  · rw [if_neg c22] at H
                    exact absurd H (by simp)
                · rw [if_neg c21] at H
                  exact absurd H (by simp)
            · rw [if_neg c12] at H
              exact absurd H (by simp)
          · rw [if_neg c11] at H
            exact absurd H (by simp)
        · rw [if_neg c9] at H
          have c9b0 : decide (1 < (t150.length : Int)) = false := decide_eq_false c9
          have c9b1 : decide (1 < t150.length) = false := decide_eq_false (by omega)
          clear c9
          obtain ⟨y175, hy175⟩ : ∃ y_ : List (S36), y_ = (([] : List (S36))) := ⟨_, rfl⟩
          replace H : (if 1 ≤ (t150.length : Int) then (if (t150.length : Int) ≤ (t150.length : Int) then ((some ((t150.take ((t150.length : Int) : Int).toNat).drop 1 : List (S36))).bind fun y178 => (if y175.length + y178.length < 8796093022208 then (some (y175 ++ y178)) else (none))) else (none)) else (none)) = some r := by first | (rw [hy175]; with_reducible exact H) | (have H2_ := (Option.bind_some _ _).symm.trans H; rw [hy175]; with_reducible exact H2_) | (have H2_ := (Option.bind_some _ _).symm.trans H; with_reducible exact H2_) | with_reducible exact H | (rw [hy175]; exact H) | exact H
          have Ny175 := Aside0.mk hy175
          clear hy175
          by_cases c28 : 1 ≤ (t150.length : Int)
          · rw [if_pos c28] at H
            have c28b0 := eq_true c28
            have c28b1 : decide (1 ≤ (t150.length : Int)) = true := decide_eq_true c28
            clear c28
            by_cases c29 : (t150.length : Int) ≤ (t150.length : Int)
            · rw [if_pos c29] at H
              have c29b0 := eq_true c29
              have c29b1 : decide ((t150.length : Int) ≤ (t150.length : Int)) = true := decide_eq_true c29
              clear c29
              obtain ⟨y178, hy178⟩ : ∃ y_ : List (S36), y_ = ((t150.take ((t150.length : Int) : Int).toNat).drop 1) := ⟨_, rfl⟩
              replace H : (if y175.length + y178.length < 8796093022208 then (some (y175 ++ y178)) else (none)) = some r := by first | (rw [hy178]; with_reducible exact H) | (have H2_ := (Option.bind_some _ _).symm.trans H; rw [hy178]; with_reducible exact H2_) | (have H2_ := (Option.bind_some _ _).symm.trans H; with_reducible exact H2_) | with_reducible exact H | (rw [hy178]; exact H) | exact H
              have Ny178 := Aside0.mk hy178
              clear hy178
              by_cases c30 : y175.length + y178.length < 8796093022208
              · rw [if_pos c30] at H
                have LMc30 := Aside0.mk c30
                clear c30
                obtain ⟨y182, hy182⟩ : ∃ y_ : List (S36), y_ = (y175 ++ y178) := ⟨_, rfl⟩
                replace H : (some y182) = some r := by first | (rw [hy182]; with_reducible exact H) | (have H2_ := (Option.bind_some _ _).symm.trans H; rw [hy182]; with_reducible exact H2_) | (have H2_ := (Option.bind_some _ _).symm.trans H; with_reducible exact H2_) | with_reducible exact H | (rw [hy182]; exact H) | exact H
                have Ny182 := Aside0.mk hy182
                clear hy182
                obtain rfl := Option.some.inj H
                go_wp2_with (first | ((with_reducible refine gate_dst (N := 33) rfl ?_); refine Kd.R_lit k36 _ 36 ?hg (N := 33) ?hd (xs := ([] : List (S36))) (inner := []) (ok := fun _ => True) (okp := fun _ => True) ?hr ?hp (fun _ hk => hk) trivial (Below.refl _ _) (Nat.le_refl _) (by simp) ?_; (case hd => rfl); (case hg => rfl); (case hr => first | (go_simp; done) | (go_simp; rfl)); (case hp => exact (Reps.none _ _)); intro v176 w31 ho32 hb hg_ hnew_; clear hg_ hnew_; (first | rw [← Ny175.out] at ho32 | (simp only [Int.reduceToNat] at ho32; rw [← Ny175.out] at ho32)); have n0_ := Aside0.mk (Kd.R_elder' (by (with_reducible repeat (first | apply Kd.R_alloc | apply Kd.R_drewN | apply Kd.R_drew)); exact HO_3.out) (Kd.R_base ho32) hb); have n1_ := Aside0.mk (Kd.R_lower (Kd.R_new' ho32 (Kd.R_lt (by (with_reducible repeat (first | apply Kd.R_alloc | apply Kd.R_drewN | apply Kd.R_drew)); exact HO_3.out))) (below_size (by repeat (first | (with_reducible first | exact HB.out | apply below_alloc | apply pw_below_drewN | apply below_drew1) | exact HB.out)))); have n2_ := Aside0.mk (below_step (by repeat (first | (with_reducible first | exact HB.out | apply below_alloc | apply pw_below_drewN | apply below_drew1) | exact HB.out)) hb); clear HO_3; clear HB; have HO_3 := n0_; have HO177 := n1_; have HB := n2_; clear n0_ n1_ n2_; clear hb ho32; have q33 : ((t150.length : Int) : Int) ≤ ((t150.length : Int) : Int) := of_decide_eq_true (by first | (with_reducible assumption) | assumption); obtain ⟨i033, hi033, _, hsz33, _⟩ := info_parts info36; have hroom33 : t150.length ≤ co5 := (Kd.R_reads' HO_3.out).2.1; have hC33 : Kd.C k36 _ Ao5 t150.length t150 := (Kd.R_reads' HO_3.out).2.2; have ql33 : (1 : Int) ≤ ((t150.length : Int) : Int) := of_decide_eq_true (by first | (with_reducible assumption) | assumption); have hcut33 := cut_mid (P := Tryd.prog) 54 36 .i64 .i64 Tryd.underlying54 hi033 2 hsz33 Ao5 t150.length co5 1 (t150.length : Int) (by omega) ql33 q33 hroom33; have hr33 := Kd.C_mid (lo := (1 : Int).toNat) (hi := ((t150.length : Int) : Int).toNat) (c := co5) hC33 (by omega) (by omega) hroom33; obtain ⟨A33, hA33⟩ : ∃ A1, A1 = (if co5 = (1 : Int).toNat then Ao5 else (Ao5 : Option Addr).map (·.add ((1 : Int).toNat * 2))) := ⟨_, rfl⟩; obtain ⟨c33, hc33⟩ : ∃ c1, c1 = co5 - (1 : Int).toNat := ⟨_, rfl⟩; have hy33 : y178.length = ((t150.length : Int) : Int).toNat - (1 : Int).toNat := (by rw [Ny178.out, List.length_drop, List.length_take] <;> omega); rw [show ((t150).take ((t150.length : Int) : Int).toNat).drop (1 : Int).toNat = y178 from Ny178.out.symm] at hr33; replace hr33 : Kd.C k36 _ A33 y178.length y178 := (by rw [hA33]; exact hr33); rw [← hy33, ← hA33, ← hc33] at hcut33; have HR181 := Aside0.mk hr33; have HC181 := Aside0.mk (show y178.length ≤ c33 from by rw [hy33, hc33]; exact Nat.sub_le_sub_right (Nat.le_trans (by omega) hroom33) _); clear hr33 hC33 hroom33 hi033 hsz33 hc33; have KY33 := Aside0.mk hy33; have KA33 := Aside0.mk hA33; clear hy33 hA33; have KL33 := Aside0.mk (show ((t150.length : Int) : Int).toNat ≤ t150.length from by omega); have KM33 := Aside0.mk (show 1 ≤ ((t150.length : Int) : Int).toNat from by omega); replace q33 := eq_true q33) | ((with_reducible refine gate_builtin (b := .append) (xs := #[.tmp 33, .tmp 37]) rfl ?_); at_builtin; refine Kd.R_append_rows k36 (w0 := w) w.heap.size rfl (.tmp 33) (.tmp 37) 54 36 (.agg #[(.int .i64 0), (.int .i64 0)]) 16 rfl Tryd.underlying54 info36 rfl (by decide) (by omega) v176 y175 y178 _ _ _ (fun k_ => some k_ ≠ (.slice Ao5 t150.length co5 : Value).ownBlock) (fun _ => False) rfl rfl ?aO ?aR (fun _ _ h => h) (fun _ h => h.elim) ?aF ?aB ?aS ?aL ?_; (case aR => repeat (first | exact (by repeat (first | (with_reducible exact HR181.out) | (with_reducible refine Kd.C_alloc ?_ _) | (with_reducible refine Kd.C_drewN ?_ _) | (with_reducible refine Kd.C_drew ?_) | exact HR181.out)) | (with_reducible refine Kd.C_alloc ?_ _) | (with_reducible refine Kd.C_drewN ?_ _) | (with_reducible refine Kd.C_drew ?_))); (case aB => exact (by repeat (first | (with_reducible first | exact HB.out | apply below_alloc | apply pw_below_drewN | apply below_drew1) | exact HB.out))); (case aF => exact (fun k_ hk => Kd.fresh' (Kd.R_lt (by (with_reducible repeat (first | apply Kd.R_alloc | apply Kd.R_drewN | apply Kd.R_drew)); exact HO_3.out)) k_ hk)); (case aO => exact (by (with_reducible repeat (first | apply Kd.R_alloc | apply Kd.R_drewN | apply Kd.R_drew)); exact Kd.R_mono HO177.out (fun _ hk => hk.2))); (case aS => exact (below_size (by repeat (first | (with_reducible first | exact HB.out | apply below_alloc | apply pw_below_drewN | apply below_drew1) | exact HB.out)))); (case aL => have := LMc30.out; omega); intro v183 w34 ho hb hg hat; rw [← Ny182.out] at ho; have n0_ := Aside0.mk (Kd.R_after (ok := (fun _ => True)) (by (with_reducible repeat (first | apply Kd.R_alloc | apply Kd.R_drewN | apply Kd.R_drew)); exact HO_3.out) hg hat); have n1_ := Aside0.mk (hb); have n2_ := Aside0.mk ((show Kd.C k36 w34 A33 y178.length y178 from by rw [Ny178.out, KA33.out]; exact Kd.C_mid (lo := 1) (hi := ((t150.length : Int) : Int).toNat) (c := co5) ((Kd.R_reads' (Kd.R_after (ok := (fun _ => True)) (by (with_reducible repeat (first | apply Kd.R_alloc | apply Kd.R_drewN | apply Kd.R_drew)); exact HO_3.out) hg hat)).2.2) KM33.out KL33.out ((Kd.R_reads' (Kd.R_after (ok := (fun _ => True)) (by (with_reducible repeat (first | apply Kd.R_alloc | apply Kd.R_drewN | apply Kd.R_drew)); exact HO_3.out) hg hat)).2.1))); have n3_ := Aside0.mk (ho); clear HO_3; clear HB; clear HR181; clear HO177; have HO_3 := n0_; have HB := n1_; have HR181 := n2_; have HO184 := n3_; clear n0_ n1_ n2_ n3_; clear ho hb hg hat))
                go_ret
                exact ⟨_, by first | rfl | (simp [errW_none, errW_some] <;> rfl) | (simp [*, errW_none, errW_some] <;> rfl), by (with_reducible repeat (first | apply Kd.R_alloc | apply Kd.R_drewN | apply Kd.R_drew)); exact Kd.R_mono HO184.out (fun _ hk => trivial), by repeat (first | (with_reducible first | exact HB.out | apply below_alloc | apply pw_below_drewN | apply below_drew1) | exact HB.out)⟩
              · rw [if_neg c30] at H
                exact absurd H (by simp)
            · rw [if_neg c29] at H
              exact absurd H (by simp)
          · rw [if_neg c28] at H
            exact absurd H (by simp)
      · replace c8 := Bool.eq_false_iff.mpr c8
        subst c8
        have H1 : (if (t150.length : Int) > 0 then (if 0 ≤ (wrap64 ((t150.length : Int) - 1)) then (if (wrap64 ((t150.length : Int) - 1)) < (t150.length : Int) then (if ((rd_T36 t150 (wrap64 ((t150.length : Int) - 1))).f0) = 0 then ((some (([] : List (S36)) : List (S36))).bind fun y186 => (if 0 ≤ 0 then (if 0 ≤ (wrap64 ((t150.length : Int) - 1)) then (if (wrap64 ((t150.length : Int) - 1)) ≤ (t150.length : Int) then ((some ((t150.take ((wrap64 ((t150.length : Int) - 1)) : Int).toNat).drop (0 : Int).toNat : List (S36))).bind fun y189 => (if y186.length + y189.length < 8796093022208 then (some (y186 ++ y189)) else (none))) else (none)) else (none)) else (none))) else ((some (([] : List (S36)) : List (S36))).bind fun y196 => (if 0 ≤ 0 then (if 0 ≤ (t150.length : Int) then (if (t150.length : Int) ≤ (t150.length : Int) then ((some ((t150.take ((t150.length : Int) : Int).toNat).drop (0 : Int).toNat : List (S36))).bind fun y199 => (if y196.length + y199.length < 8796093022208 then (some (y196 ++ y199)) else (none))) else (none)) else (none)) else (none)))) else (none)) else (none)) else ((some (([] : List (S36)) : List (S36))).bind fun y206 => (if 0 ≤ 0 then (if 0 ≤ (t150.length : Int) then (if (t150.length : Int) ≤ (t150.length : Int) then ((some ((t150.take ((t150.length : Int) : Int).toNat).drop (0 : Int).toNat : List (S36))).bind fun y209 => (if y206.length + y209.length < 8796093022208 then (some (y206 ++ y209)) else (none))) else (none)) else (none)) else (none)))) = some r := by rw [if_neg (show ¬ (false = true) by decide)] at H; exact H
        clear H
        have H := H1
        clear H1
        by_cases c35 : (t150.length : Int) > 0
        · rw [if_pos c35] at H
          have c35b0 : decide (0 < (t150.length : Int)) = true := decide_eq_true c35
          have c35b1 : decide (0 < t150.length) = true := decide_eq_true (by omega)
          clear c35
          obtain ⟨ji36, hji36⟩ : ∃ j_ : Int, (wrap64 ((t150.length : Int) - 1)) = j_ := ⟨_, rfl⟩
          replace H : (if 0 ≤ (ji36) then (if (ji36) < (t150.length : Int) then (if ((rd_T36 t150 (ji36)).f0) = 0 then ((some (([] : List (S36)) : List (S36))).bind fun y186 => (if 0 ≤ 0 then (if 0 ≤ (ji36) then (if (ji36) ≤ (t150.length : Int) then ((some ((t150.take ((ji36) : Int).toNat).drop (0 : Int).toNat : List (S36))).bind fun y189 => (if y186.length + y189.length < 8796093022208 then (some (y186 ++ y189)) else (none))) else (none)) else (none)) else (none))) else ((some (([] : List (S36)) : List (S36))).bind fun y196 => (if 0 ≤ 0 then (if 0 ≤ (t150.length : Int) then (if (t150.length : Int) ≤ (t150.length : Int) then ((some ((t150.take ((t150.length : Int) : Int).toNat).drop (0 : Int).toNat : List (S36))).bind fun y199 => (if y196.length + y199.length < 8796093022208 then (some (y196 ++ y199)) else (none))) else (none)) else (none)) else (none)))) else (none)) else (none)) = some r := by first | (rw [hji36] at H; exact H) | (simp only [hji36] at H ⊢; exact H)
          have hji36w : (IntKind.i64.wrap ((t150.length : Int) - 1)) = ji36 := (i64_w _).trans hji36
          by_cases c37 : 0 ≤ (ji36)
          · rw [if_pos c37] at H
            have c37b0 : decide (0 ≤ (ji36)) = true := decide_eq_true c37
            clear c37
            by_cases c38 : (ji36) < (t150.length : Int)
            · rw [if_pos c38] at H
              have c38b0 : decide ((ji36) < (t150.length : Int)) = true := decide_eq_true c38
              clear c38
              by_cases c39 : ((rd_T36 t150 (ji36)).f0) = 0
              · rw [if_pos c39] at H
                have c39b0 : (((rd_T36 t150 (ji36)).f0) == 0) = true := beq_iff_eq.mpr c39
                have c39b1 : (((rd_T36 t150 (ji36)).f0) != 0) = false := bne_eq_false_iff_eq.mpr c39
                clear c39
                obtain ⟨y186, hy186⟩ : ∃ y_ : List (S36), y_ = (([] : List (S36))) := ⟨_, rfl⟩
                replace H : (if 0 ≤ 0 then (if 0 ≤ (ji36) then (if (ji36) ≤ (t150.length : Int) then ((some ((t150.take ((ji36) : Int).toNat).drop (0 : Int).toNat : List (S36))).bind fun y189 => (if y186.length + y189.length < 8796093022208 then (some (y186 ++ y189)) else (none))) else (none)) else (none)) else (none)) = some r := by first | (rw [hy186]; with_reducible exact H) | (have H2_ := (Option.bind_some _ _).symm.trans H; rw [hy186]; with_reducible exact H2_) | (have H2_ := (Option.bind_some _ _).symm.trans H; with_reducible exact H2_) | with_reducible exact H | (rw [hy186]; exact H) | exact H
                have Ny186 := Aside0.mk hy186
                clear hy186
                by_cases c40 : 0 ≤ 0
                · rw [if_pos c40] at H
                  have c40b0 := eq_true c40
                  have c40b1 : decide (0 ≤ 0) = true := decide_eq_true c40
                  clear c40
                  by_cases c41 : 0 ≤ (ji36)
                  · rw [if_pos c41] at H
                    have c41b0 := eq_true c41
                    have c41b1 : decide (0 ≤ (ji36)) = true := decide_eq_true c41
                    clear c41
                    by_cases c42 : (ji36) ≤ (t150.length : Int)
                    · rw [if_pos c42] at H
                      have c42b0 := eq_true c42
                      have c42b1 : decide ((ji36) ≤ (t150.length : Int)) = true := decide_eq_true c42
                      clear c42
                      obtain ⟨y189, hy189⟩ : ∃ y_ : List (S36), y_ = ((t150.take ((ji36) : Int).toNat).drop (0 : Int).toNat) := ⟨_, rfl⟩
                      replace H : (if y186.length + y189.length < 8796093022208 then (some (y186 ++ y189)) else (none)) = some r := by first | (rw [hy189]; with_reducible exact H) | (have H2_ := (Option.bind_some _ _).symm.trans H; rw [hy189]; with_reducible exact H2_) | (have H2_ := (Option.bind_some _ _).symm.trans H; with_reducible exact H2_) | with_reducible exact H | (rw [hy189]; exact H) | exact H
                      have Ny189 := Aside0.mk hy189
                      clear hy189
                      by_cases c43 : y186.length + y189.length < 8796093022208
                      · rw [if_pos c43] at H
                        have LMc43 := Aside0.mk c43
                        clear c43
                        obtain ⟨y193, hy193⟩ : ∃ y_ : List (S36), y_ = (y186 ++ y189) := ⟨_, rfl⟩
                        replace H : (some y193) = some r := by first | (rw [hy193]; with_reducible exact H) | (have H2_ := (Option.bind_some _ _).symm.trans H; rw [hy193]; with_reducible exact H2_) | (have H2_ := (Option.bind_some _ _).symm.trans H; with_reducible exact H2_) | with_reducible exact H | (rw [hy193]; exact H) | exact H
                        have Ny193 := Aside0.mk hy193
                        clear hy193
                        obtain rfl := Option.some.inj H
                        have p185 : 0 ≤ ((ji36) : Int) := of_decide_eq_true (by first | (with_reducible assumption) | assumption)
                        have q185 : (ji36) < (t150.length : Int) := of_decide_eq_true (by first | (with_reducible assumption) | assumption)
                        obtain ⟨ad185, e185, hx185_0, hx185_1⟩ := at_T36 (Kd.R_reads' HO_3.out).2.2 (ji36) p185 q185
                        cases e185
                        replace p185 := eq_true p185
                        replace q185 := eq_true q185
                        go_wp2_with (first | ((with_reducible refine gate_dst (N := 33) rfl ?_); refine Kd.R_lit k36 _ 36 ?hg (N := 33) ?hd (xs := ([] : List (S36))) (inner := []) (ok := fun _ => True) (okp := fun _ => True) ?hr ?hp (fun _ hk => hk) trivial (Below.refl _ _) (Nat.le_refl _) (by simp) ?_; (case hd => rfl); (case hg => rfl); (case hr => first | (go_simp; done) | (go_simp; rfl)); (case hp => exact (Reps.none _ _)); intro v187 w44 ho45 hb hg_ hnew_; clear hg_ hnew_; (first | rw [← Ny186.out] at ho45 | (simp only [Int.reduceToNat] at ho45; rw [← Ny186.out] at ho45)); have n0_ := Aside0.mk (Kd.R_elder' (by (with_reducible repeat (first | apply Kd.R_alloc | apply Kd.R_drewN | apply Kd.R_drew)); exact HO_3.out) (Kd.R_base ho45) hb); have n1_ := Aside0.mk (Kd.R_lower (Kd.R_new' ho45 (Kd.R_lt (by (with_reducible repeat (first | apply Kd.R_alloc | apply Kd.R_drewN | apply Kd.R_drew)); exact HO_3.out))) (below_size (by repeat (first | (with_reducible first | exact HB.out | apply below_alloc | apply pw_below_drewN | apply below_drew1) | exact HB.out)))); have n2_ := Aside0.mk (below_step (by repeat (first | (with_reducible first | exact HB.out | apply below_alloc | apply pw_below_drewN | apply below_drew1) | exact HB.out)) hb); clear HO_3; clear HB; have HO_3 := n0_; have HO188 := n1_; have HB := n2_; clear n0_ n1_ n2_; clear hb ho45; have q46 : ((ji36) : Int) ≤ ((t150.length : Int) : Int) := of_decide_eq_true (by first | (with_reducible assumption) | assumption); obtain ⟨i046, hi046, _, hsz46, _⟩ := info_parts info36; have hroom46 : t150.length ≤ co5 := (Kd.R_reads' HO_3.out).2.1; have hC46 : Kd.C k36 _ (some ad185) t150.length t150 := (Kd.R_reads' HO_3.out).2.2; have ql46 : (0 : Int) ≤ ((ji36) : Int) := of_decide_eq_true (by first | (with_reducible assumption) | assumption); have hcut46 := cut_mid (P := Tryd.prog) 54 36 .i64 .i64 Tryd.underlying54 hi046 2 hsz46 (some ad185) t150.length co5 0 (ji36) (by omega) ql46 q46 hroom46; have hr46 := Kd.C_mid (lo := (0 : Int).toNat) (hi := ((ji36) : Int).toNat) (c := co5) hC46 (by omega) (by omega) hroom46; obtain ⟨A46, hA46⟩ : ∃ A1, A1 = (if co5 = (0 : Int).toNat then (some ad185) else ((some ad185) : Option Addr).map (·.add ((0 : Int).toNat * 2))) := ⟨_, rfl⟩; obtain ⟨c46, hc46⟩ : ∃ c1, c1 = co5 - (0 : Int).toNat := ⟨_, rfl⟩; have hy46 : y189.length = ((ji36) : Int).toNat - (0 : Int).toNat := (by rw [Ny189.out, List.length_drop, List.length_take] <;> omega); rw [show ((t150).take ((ji36) : Int).toNat).drop (0 : Int).toNat = y189 from Ny189.out.symm] at hr46; replace hr46 : Kd.C k36 _ A46 y189.length y189 := (by rw [hA46]; exact hr46); rw [← hy46, ← hA46, ← hc46] at hcut46; have HR192 := Aside0.mk hr46; have HC192 := Aside0.mk (show y189.length ≤ c46 from by rw [hy46, hc46]; exact Nat.sub_le_sub_right (Nat.le_trans (by omega) hroom46) _); clear hr46 hC46 hroom46 hi046 hsz46 hc46; have KY46 := Aside0.mk hy46; have KA46 := Aside0.mk hA46; clear hy46 hA46; have KL46 := Aside0.mk (show ((ji36) : Int).toNat ≤ t150.length from by omega); have KM46 := Aside0.mk (show 0 ≤ ((ji36) : Int).toNat from by omega); replace q46 := eq_true q46) | ((with_reducible refine gate_builtin (b := .append) (xs := #[.tmp 33, .tmp 37]) rfl ?_); at_builtin; refine Kd.R_append_rows k36 (w0 := w) w.heap.size rfl (.tmp 33) (.tmp 37) 54 36 (.agg #[(.int .i64 0), (.int .i64 0)]) 16 rfl Tryd.underlying54 info36 rfl (by decide) (by omega) v187 y186 y189 _ _ _ (fun k_ => some k_ ≠ (.slice (some ad185) t150.length co5 : Value).ownBlock) (fun _ => False) rfl rfl ?aO ?aR (fun _ _ h => h) (fun _ h => h.elim) ?aF ?aB ?aS ?aL ?_; (case aR => repeat (first | exact (by repeat (first | (with_reducible exact HR192.out) | (with_reducible refine Kd.C_alloc ?_ _) | (with_reducible refine Kd.C_drewN ?_ _) | (with_reducible refine Kd.C_drew ?_) | exact HR192.out)) | (with_reducible refine Kd.C_alloc ?_ _) | (with_reducible refine Kd.C_drewN ?_ _) | (with_reducible refine Kd.C_drew ?_))); (case aB => exact (by repeat (first | (with_reducible first | exact HB.out | apply below_alloc | apply pw_below_drewN | apply below_drew1) | exact HB.out))); (case aF => exact (fun k_ hk => Kd.fresh' (Kd.R_lt (by (with_reducible repeat (first | apply Kd.R_alloc | apply Kd.R_drewN | apply Kd.R_drew)); exact HO_3.out)) k_ hk)); (case aO => exact (by (with_reducible repeat (first | apply Kd.R_alloc | apply Kd.R_drewN | apply Kd.R_drew)); exact Kd.R_mono HO188.out (fun _ hk => hk.2))); (case aS => exact (below_size (by repeat (first | (with_reducible first | exact HB.out | apply below_alloc | apply pw_below_drewN | apply below_drew1) | exact HB.out)))); (case aL => have := LMc43.out; omega); intro v194 w47 ho hb hg hat; rw [← Ny193.out] at ho; have n0_ := Aside0.mk (Kd.R_after (ok := (fun _ => True)) (by (with_reducible repeat (first | apply Kd.R_alloc | apply Kd.R_drewN | apply Kd.R_drew)); exact HO_3.out) hg hat); have n1_ := Aside0.mk (hb); have n2_ := Aside0.mk ((show Kd.C k36 w47 A46 y189.length y189 from by rw [Ny189.out, KA46.out]; exact Kd.C_mid (lo := 0) (hi := ((ji36) : Int).toNat) (c := co5) ((Kd.R_reads' (Kd.R_after (ok := (fun _ => True)) (by (with_reducible repeat (first | apply Kd.R_alloc | apply Kd.R_drewN | apply Kd.R_drew)); exact HO_3.out) hg hat)).2.2) KM46.out KL46.out ((Kd.R_reads' (Kd.R_after (ok := (fun _ => True)) (by (with_reducible repeat (first | apply Kd.R_alloc | apply Kd.R_drewN | apply Kd.R_drew)); exact HO_3.out) hg hat)).2.1))); have n3_ := Aside0.mk (ho); clear HO_3; clear HB; clear HR192; clear HO188; have HO_3 := n0_; have HB := n1_; have HR192 := n2_; have HO195 := n3_; clear n0_ n1_ n2_ n3_; clear ho hb hg hat))
                        go_ret
                        exact ⟨_, by first | rfl | (simp [errW_none, errW_some] <;> rfl) | (simp only [← hji36]; first | rfl | (simp [errW_none, errW_some] <;> rfl)) | (simp [*, errW_none, errW_some] <;> rfl), by (with_reducible repeat (first | apply Kd.R_alloc | apply Kd.R_drewN | apply Kd.R_drew)); exact Kd.R_mono HO195.out (fun _ hk => trivial), by repeat (first | (with_reducible first | exact HB.out | apply below_alloc | apply pw_below_drewN | apply below_drew1) | exact HB.out)⟩
                      · rw [if_neg c43] at H
                        exact absurd H (by simp)
                    · rw [if_neg c42] at H
                      exact absurd H (by simp)
                  · rw [if_neg c41] at H
                    exact absurd H (by simp)
                · rw [if_neg c40] at H
                  exact absurd H (by simp)
              · rw [if_neg c39] at H
                have c39b0 : (((rd_T36 t150 (ji36)).f0) == 0) = false := beq_eq_false_iff_ne.mpr c39
                have c39b1 : (((rd_T36 t150 (ji36)).f0) != 0) = true := bne_iff_ne.mpr c39
                obtain ⟨y196, hy196⟩ : ∃ y_ : List (S36), y_ = (([] : List (S36))) := ⟨_, rfl⟩
                replace H : (if 0 ≤ 0 then (if 0 ≤ (t150.length : Int) then (if (t150.length : Int) ≤ (t150.length : Int) then ((some ((t150.take ((t150.length : Int) : Int).toNat).drop (0 : Int).toNat : List (S36))).bind fun y199 => (if y196.length + y199.length < 8796093022208 then (some (y196 ++ y199)) else (none))) else (none)) else (none)) else (none)) = some r := by first | (rw [hy196]; with_reducible exact H) | (have H2_ := (Option.bind_some _ _).symm.trans H; rw [hy196]; with_reducible exact H2_) | (have H2_ := (Option.bind_some _ _).symm.trans H; with_reducible exact H2_) | with_reducible exact H | (rw [hy196]; exact H) | exact H
                have Ny196 := Aside0.mk hy196
                clear hy196
                by_cases c48 : 0 ≤ 0
                · rw [if_pos c48] at H
                  have c48b0 := eq_true c48
                  have c48b1 : decide (0 ≤ 0) = true := decide_eq_true c48
                  clear c48
                  by_cases c49 : 0 ≤ (t150.length : Int)
                  · rw [if_pos c49] at H
                    have c49b0 := eq_true c49
                    have c49b1 : decide (0 ≤ (t150.length : Int)) = true := decide_eq_true c49
                    clear c49
                    by_cases c50 : (t150.length : Int) ≤ (t150.length : Int)
                    · rw [if_pos c50] at H
                      have c50b0 := eq_true c50
                      have c50b1 : decide ((t150.length : Int) ≤ (t150.length : Int)) = true := decide_eq_true c50
                      clear c50
                      obtain ⟨y199, hy199⟩ : ∃ y_ : List (S36), y_ = ((t150.take ((t150.length : Int) : Int).toNat).drop (0 : Int).toNat) := ⟨_, rfl⟩
                      replace H : (if y196.length + y199.length < 8796093022208 then (some (y196 ++ y199)) else (none)) = some r := by first | (rw [hy199]; with_reducible exact H) | (have H2_ := (Option.bind_some _ _).symm.trans H; rw [hy199]; with_reducible exact H2_) | (have H2_ := (Option.bind_some _ _).symm.trans H; with_reducible exact H2_) | with_reducible exact H | (rw [hy199]; exact H) | exact H
                      have Ny199 := Aside0.mk hy199
                      clear hy199
                      by_cases c51 : y196.length + y199.length < 8796093022208
                      · rw [if_pos c51] at H
                        have LMc51 := Aside0.mk c51
                        clear c51
                        obtain ⟨y203, hy203⟩ : ∃ y_ : List (S36), y_ = (y196 ++ y199) := ⟨_, rfl⟩
                        replace H : (some y203) = some r := by first | (rw [hy203]; with_reducible exact H) | (have H2_ := (Option.bind_some _ _).symm.trans H; rw [hy203]; with_reducible exact H2_) | (have H2_ := (Option.bind_some _ _).symm.trans H; with_reducible exact H2_) | with_reducible exact H | (rw [hy203]; exact H) | exact H
                        have Ny203 := Aside0.mk hy203
                        clear hy203
                        obtain rfl := Option.some.inj H
                        have p185 : 0 ≤ ((ji36) : Int) := of_decide_eq_true (by first | (with_reducible assumption) | assumption)
                        have q185 : (ji36) < (t150.length : Int) := of_decide_eq_true (by first | (with_reducible assumption) | assumption)
                        obtain ⟨ad185, e185, hx185_0, hx185_1⟩ := at_T36 (Kd.R_reads' HO_3.out).2.2 (ji36) p185 q185
                        cases e185
                        replace p185 := eq_true p185
                        replace q185 := eq_true q185
                        go_wp2_with (first | ((with_reducible refine gate_dst (N := 33) rfl ?_); refine Kd.R_lit k36 _ 36 ?hg (N := 33) ?hd (xs := ([] : List (S36))) (inner := []) (ok := fun _ => True) (okp := fun _ => True) ?hr ?hp (fun _ hk => hk) trivial (Below.refl _ _) (Nat.le_refl _) (by simp) ?_; (case hd => rfl); (case hg => rfl); (case hr => first | (go_simp; done) | (go_simp; rfl)); (case hp => exact (Reps.none _ _)); intro v197 w52 ho53 hb hg_ hnew_; clear hg_ hnew_; (first | rw [← Ny196.out] at ho53 | (simp only [Int.reduceToNat] at ho53; rw [← Ny196.out] at ho53)); have n0_ := Aside0.mk (Kd.R_elder' (by (with_reducible repeat (first | apply Kd.R_alloc | apply Kd.R_drewN | apply Kd.R_drew)); exact HO_3.out) (Kd.R_base ho53) hb); have n1_ := Aside0.mk (Kd.R_lower (Kd.R_new' ho53 (Kd.R_lt (by (with_reducible repeat (first | apply Kd.R_alloc | apply Kd.R_drewN | apply Kd.R_drew)); exact HO_3.out))) (below_size (by repeat (first | (with_reducible first | exact HB.out | apply below_alloc | apply pw_below_drewN | apply below_drew1) | exact HB.out)))); have n2_ := Aside0.mk (below_step (by repeat (first | (with_reducible first | exact HB.out | apply below_alloc | apply pw_below_drewN | apply below_drew1) | exact HB.out)) hb); clear HO_3; clear HB; have HO_3 := n0_; have HO198 := n1_; have HB := n2_; clear n0_ n1_ n2_; clear hb ho53; have q54 : ((t150.length : Int) : Int) ≤ ((t150.length : Int) : Int) := of_decide_eq_true (by first | (with_reducible assumption) | assumption); obtain ⟨i054, hi054, _, hsz54, _⟩ := info_parts info36; have hroom54 : t150.length ≤ co5 := (Kd.R_reads' HO_3.out).2.1; have hC54 : Kd.C k36 _ (some ad185) t150.length t150 := (Kd.R_reads' HO_3.out).2.2; have ql54 : (0 : Int) ≤ ((t150.length : Int) : Int) := of_decide_eq_true (by first | (with_reducible assumption) | assumption); have hcut54 := cut_mid (P := Tryd.prog) 54 36 .i64 .i64 Tryd.underlying54 hi054 2 hsz54 (some ad185) t150.length co5 0 (t150.length : Int) (by omega) ql54 q54 hroom54; have hr54 := Kd.C_mid (lo := (0 : Int).toNat) (hi := ((t150.length : Int) : Int).toNat) (c := co5) hC54 (by omega) (by omega) hroom54; obtain ⟨A54, hA54⟩ : ∃ A1, A1 = (if co5 = (0 : Int).toNat then (some ad185) else ((some ad185) : Option Addr).map (·.add ((0 : Int).toNat * 2))) := ⟨_, rfl⟩; obtain ⟨c54, hc54⟩ : ∃ c1, c1 = co5 - (0 : Int).toNat := ⟨_, rfl⟩; have hy54 : y199.length = ((t150.length : Int) : Int).toNat - (0 : Int).toNat := (by rw [Ny199.out, List.length_drop, List.length_take] <;> omega); rw [show ((t150).take ((t150.length : Int) : Int).toNat).drop (0 : Int).toNat = y199 from Ny199.out.symm] at hr54; replace hr54 : Kd.C k36 _ A54 y199.length y199 := (by rw [hA54]; exact hr54); rw [← hy54, ← hA54, ← hc54] at hcut54; have HR202 := Aside0.mk hr54; have HC202 := Aside0.mk (show y199.length ≤ c54 from by rw [hy54, hc54]; exact Nat.sub_le_sub_right (Nat.le_trans (by omega) hroom54) _); clear hr54 hC54 hroom54 hi054 hsz54 hc54; have KY54 := Aside0.mk hy54; have KA54 := Aside0.mk hA54; clear hy54 hA54; have KL54 := Aside0.mk (show ((t150.length : Int) : Int).toNat ≤ t150.length from by omega); have KM54 := Aside0.mk (show 0 ≤ ((t150.length : Int) : Int).toNat from by omega); replace q54 := eq_true q54) | ((with_reducible refine gate_builtin (b := .append) (xs := #[.tmp 33, .tmp 37]) rfl ?_); at_builtin; refine Kd.R_append_rows k36 (w0 := w) w.heap.size rfl (.tmp 33) (.tmp 37) 54 36 (.agg #[(.int .i64 0), (.int .i64 0)]) 16 rfl Tryd.underlying54 info36 rfl (by decide) (by omega) v197 y196 y199 _ _ _ (fun k_ => some k_ ≠ (.slice (some ad185) t150.length co5 : Value).ownBlock) (fun _ => False) rfl rfl ?aO ?aR (fun _ _ h => h) (fun _ h => h.elim) ?aF ?aB ?aS ?aL ?_; (case aR => repeat (first | exact (by repeat (first | (with_reducible exact HR202.out) | (with_reducible refine Kd.C_alloc ?_ _) | (with_reducible refine Kd.C_drewN ?_ _) | (with_reducible refine Kd.C_drew ?_) | exact HR202.out)) | (with_reducible refine Kd.C_alloc ?_ _) | (with_reducible refine Kd.C_drewN ?_ _) | (with_reducible refine Kd.C_drew ?_))); (case aB => exact (by repeat (first | (with_reducible first | exact HB.out | apply below_alloc | apply pw_below_drewN | apply below_drew1) | exact HB.out))); (case aF => exact (fun k_ hk => Kd.fresh' (Kd.R_lt (by (with_reducible repeat (first | apply Kd.R_alloc | apply Kd.R_drewN | apply Kd.R_drew)); exact HO_3.out)) k_ hk)); (case aO => exact (by (with_reducible repeat (first | apply Kd.R_alloc | apply Kd.R_drewN | apply Kd.R_drew)); exact Kd.R_mono HO198.out (fun _ hk => hk.2))); (case aS => exact (below_size (by repeat (first | (with_reducible first | exact HB.out | apply below_alloc | apply pw_below_drewN | apply below_drew1) | exact HB.out)))); (case aL => have := LMc51.out; omega); intro v204 w55 ho hb hg hat; rw [← Ny203.out] at ho; have n0_ := Aside0.mk (Kd.R_after (ok := (fun _ => True)) (by (with_reducible repeat (first | apply Kd.R_alloc | apply Kd.R_drewN | apply Kd.R_drew)); exact HO_3.out) hg hat); have n1_ := Aside0.mk (hb); have n2_ := Aside0.mk ((show Kd.C k36 w55 A54 y199.length y199 from by rw [Ny199.out, KA54.out]; exact Kd.C_mid (lo := 0) (hi := ((t150.length : Int) : Int).toNat) (c := co5) ((Kd.R_reads' (Kd.R_after (ok := (fun _ => True)) (by (with_reducible repeat (first | apply Kd.R_alloc | apply Kd.R_drewN | apply Kd.R_drew)); exact HO_3.out) hg hat)).2.2) KM54.out KL54.out ((Kd.R_reads' (Kd.R_after (ok := (fun _ => True)) (by (with_reducible repeat (first | apply Kd.R_alloc | apply Kd.R_drewN | apply Kd.R_drew)); exact HO_3.out) hg hat)).2.1))); have n3_ := Aside0.mk (ho); clear HO_3; clear HB; clear HR202; clear HO198; have HO_3 := n0_; have HB := n1_; have HR202 := n2_; have HO205 := n3_; clear n0_ n1_ n2_ n3_; clear ho hb hg hat))
                        go_ret
                        exact ⟨_, by first | rfl | (simp [errW_none, errW_some] <;> rfl) | (simp only [← hji36]; first | rfl | (simp [errW_none, errW_some] <;> rfl)) | (simp [*, errW_none, errW_some] <;> rfl), by (with_reducible repeat (first | apply Kd.R_alloc | apply Kd.R_drewN | apply Kd.R_drew)); exact Kd.R_mono HO205.out (fun _ hk => trivial), by repeat (first | (with_reducible first | exact HB.out | apply below_alloc | apply pw_below_drewN | apply below_drew1) | exact HB.out)⟩
                      · rw [if_neg c51] at H
                        exact absurd H (by simp)
                    · rw [if_neg c50] at H
                      exact absurd H (by simp)
                  · rw [if_neg c49] at H
                    exact absurd H (by simp)
                · rw [if_neg c48] at H
                  exact absurd H (by simp)
            · rw [if_neg c38] at H
              exact absurd H (by simp)
          · rw [if_neg c37] at H
            exact absurd H (by simp)
        · rw [if_neg c35] at H
          have c35b0 : decide (0 < (t150.length : Int)) = false := decide_eq_false c35
          have c35b1 : decide (0 < t150.length) = false := decide_eq_false (by omega)
          clear c35
          obtain ⟨y206, hy206⟩ : ∃ y_ : List (S36), y_ = (([] : List (S36))) := ⟨_, rfl⟩
          replace H : (if 0 ≤ 0 then (if 0 ≤ (t150.length : Int) then (if (t150.length : Int) ≤ (t150.length : Int) then ((some ((t150.take ((t150.length : Int) : Int).toNat).drop (0 : Int).toNat : List (S36))).bind fun y209 => (if y206.length + y209.length < 8796093022208 then (some (y206 ++ y209)) else (none))) else (none)) else (none)) else (none)) = some r := by first | (rw [hy206]; with_reducible exact H) | (have H2_ := (Option.bind_some _ _).symm.trans H; rw [hy206]; with_reducible exact H2_) | (have H2_ := (Option.bind_some _ _).symm.trans H; with_reducible exact H2_) | with_reducible exact H | (rw [hy206]; exact H) | exact H
          have Ny206 := Aside0.mk hy206
          clear hy206
          by_cases c56 : 0 ≤ 0
          · rw [if_pos c56] at H
            have c56b0 := eq_true c56
            have c56b1 : decide (0 ≤ 0) = true := decide_eq_true c56
            clear c56
            by_cases c57 : 0 ≤ (t150.length : Int)
            · rw [if_pos c57] at H
              have c57b0 := eq_true c57
              have c57b1 : decide (0 ≤ (t150.length : Int)) = true := decide_eq_true c57
              clear c57
              by_cases c58 : (t150.length : Int) ≤ (t150.length : Int)
              · rw [if_pos c58] at H
                have c58b0 := eq_true c58
                have c58b1 : decide ((t150.length : Int) ≤ (t150.length : Int)) = true := decide_eq_true c58
                clear c58
                obtain ⟨y209, hy209⟩ : ∃ y_ : List (S36), y_ = ((t150.take ((t150.length : Int) : Int).toNat).drop (0 : Int).toNat) := ⟨_, rfl⟩
                replace H : (if y206.length + y209.length < 8796093022208 then (some (y206 ++ y209)) else (none)) = some r := by first | (rw [hy209]; with_reducible exact H) | (have H2_ := (Option.bind_some _ _).symm.trans H; rw [hy209]; with_reducible exact H2_) | (have H2_ := (Option.bind_some _ _).symm.trans H; with_reducible exact H2_) | with_reducible exact H | (rw [hy209]; exact H) | exact H
                have Ny209 := Aside0.mk hy209
                clear hy209
                by_cases c59 : y206.length + y209.length < 8796093022208
                · rw [if_pos c59] at H
                  have LMc59 := Aside0.mk c59
                  clear c59
                  obtain ⟨y213, hy213⟩ : ∃ y_ : List (S36), y_ = (y206 ++ y209) := ⟨_, rfl⟩
                  replace H : (some y213) = some r := by first | (rw [hy213]; with_reducible exact H) | (have H2_ := (Option.bind_some _ _).symm.trans H; rw [hy213]; with_reducible exact H2_) | (have H2_ := (Option.bind_some _ _).symm.trans H; with_reducible exact H2_) | with_reducible exact H | (rw [hy213]; exact H) | exact H
                  have Ny213 := Aside0.mk hy213
                  clear hy213
                  obtain rfl := Option.some.inj H
                  go_wp2_with (first | ((with_reducible refine gate_dst (N := 33) rfl ?_); refine Kd.R_lit k36 _ 36 ?hg (N := 33) ?hd (xs := ([] : List (S36))) (inner := []) (ok := fun _ => True) (okp := fun _ => True) ?hr ?hp (fun _ hk => hk) trivial (Below.refl _ _) (Nat.le_refl _) (by simp) ?_; (case hd => rfl); (case hg => rfl); (case hr => first | (go_simp; done) | (go_simp; rfl)); (case hp => exact (Reps.none _ _)); intro v207 w60 ho61 hb hg_ hnew_; clear hg_ hnew_; (first | rw [← Ny206.out] at ho61 | (simp only [Int.reduceToNat] at ho61; rw [← Ny206.out] at ho61)); have n0_ := Aside0.mk (Kd.R_elder' (by (with_reducible repeat (first | apply Kd.R_alloc | apply Kd.R_drewN | apply Kd.R_drew)); exact HO_3.out) (Kd.R_base ho61) hb); have n1_ := Aside0.mk (Kd.R_lower (Kd.R_new' ho61 (Kd.R_lt (by (with_reducible repeat (first | apply Kd.R_alloc | apply Kd.R_drewN | apply Kd.R_drew)); exact HO_3.out))) (below_size (by repeat (first | (with_reducible first | exact HB.out | apply below_alloc | apply pw_below_drewN | apply below_drew1) | exact HB.out)))); have n2_ := Aside0.mk (below_step (by repeat (first | (with_reducible first | exact HB.out | apply below_alloc | apply pw_below_drewN | apply below_drew1) | exact HB.out)) hb); clear HO_3; clear HB; have HO_3 := n0_; have HO208 := n1_; have HB := n2_; clear n0_ n1_ n2_; clear hb ho61; have q62 : ((t150.length : Int) : Int) ≤ ((t150.length : Int) : Int) := of_decide_eq_true (by first | (with_reducible assumption) | assumption); obtain ⟨i062, hi062, _, hsz62, _⟩ := info_parts info36; have hroom62 : t150.length ≤ co5 := (Kd.R_reads' HO_3.out).2.1; have hC62 : Kd.C k36 _ Ao5 t150.length t150 := (Kd.R_reads' HO_3.out).2.2; have ql62 : (0 : Int) ≤ ((t150.length : Int) : Int) := of_decide_eq_true (by first | (with_reducible assumption) | assumption); have hcut62 := cut_mid (P := Tryd.prog) 54 36 .i64 .i64 Tryd.underlying54 hi062 2 hsz62 Ao5 t150.length co5 0 (t150.length : Int) (by omega) ql62 q62 hroom62; have hr62 := Kd.C_mid (lo := (0 : Int).toNat) (hi := ((t150.length : Int) : Int).toNat) (c := co5) hC62 (by omega) (by omega) hroom62; obtain ⟨A62, hA62⟩ : ∃ A1, A1 = (if co5 = (0 : Int).toNat then Ao5 else (Ao5 : Option Addr).map (·.add ((0 : Int).toNat * 2))) := ⟨_, rfl⟩; obtain ⟨c62, hc62⟩ : ∃ c1, c1 = co5 - (0 : Int).toNat := ⟨_, rfl⟩; have hy62 : y209.length = ((t150.length : Int) : Int).toNat - (0 : Int).toNat := (by rw [Ny209.out, List.length_drop, List.length_take] <;> omega); rw [show ((t150).take ((t150.length : Int) : Int).toNat).drop (0 : Int).toNat = y209 from Ny209.out.symm] at hr62; replace hr62 : Kd.C k36 _ A62 y209.length y209 := (by rw [hA62]; exact hr62); rw [← hy62, ← hA62, ← hc62] at hcut62; have HR212 := Aside0.mk hr62; have HC212 := Aside0.mk (show y209.length ≤ c62 from by rw [hy62, hc62]; exact Nat.sub_le_sub_right (Nat.le_trans (by omega) hroom62) _); clear hr62 hC62 hroom62 hi062 hsz62 hc62; have KY62 := Aside0.mk hy62; have KA62 := Aside0.mk hA62; clear hy62 hA62; have KL62 := Aside0.mk (show ((t150.length : Int) : Int).toNat ≤ t150.length from by omega); have KM62 := Aside0.mk (show 0 ≤ ((t150.length : Int) : Int).toNat from by omega); replace q62 := eq_true q62) | ((with_reducible refine gate_builtin (b := .append) (xs := #[.tmp 33, .tmp 37]) rfl ?_); at_builtin; refine Kd.R_append_rows k36 (w0 := w) w.heap.size rfl (.tmp 33) (.tmp 37) 54 36 (.agg #[(.int .i64 0), (.int .i64 0)]) 16 rfl Tryd.underlying54 info36 rfl (by decide) (by omega) v207 y206 y209 _ _ _ (fun k_ => some k_ ≠ (.slice Ao5 t150.length co5 : Value).ownBlock) (fun _ => False) rfl rfl ?aO ?aR (fun _ _ h => h) (fun _ h => h.elim) ?aF ?aB ?aS ?aL ?_; (case aR => repeat (first | exact (by repeat (first | (with_reducible exact HR212.out) | (with_reducible refine Kd.C_alloc ?_ _) | (with_reducible refine Kd.C_drewN ?_ _) | (with_reducible refine Kd.C_drew ?_) | exact HR212.out)) | (with_reducible refine Kd.C_alloc ?_ _) | (with_reducible refine Kd.C_drewN ?_ _) | (with_reducible refine Kd.C_drew ?_))); (case aB => exact (by repeat (first | (with_reducible first | exact HB.out | apply below_alloc | apply pw_below_drewN | apply below_drew1) | exact HB.out))); (case aF => exact (fun k_ hk => Kd.fresh' (Kd.R_lt (by (with_reducible repeat (first | apply Kd.R_alloc | apply Kd.R_drewN | apply Kd.R_drew)); exact HO_3.out)) k_ hk)); (case aO => exact (by (with_reducible repeat (first | apply Kd.R_alloc | apply Kd.R_drewN | apply Kd.R_drew)); exact Kd.R_mono HO208.out (fun _ hk => hk.2))); (case aS => exact (below_size (by repeat (first | (with_reducible first | exact HB.out | apply below_alloc | apply pw_below_drewN | apply below_drew1) | exact HB.out)))); (case aL => have := LMc59.out; omega); intro v214 w63 ho hb hg hat; rw [← Ny213.out] at ho; have n0_ := Aside0.mk (Kd.R_after (ok := (fun _ => True)) (by (with_reducible repeat (first | apply Kd.R_alloc | apply Kd.R_drewN | apply Kd.R_drew)); exact HO_3.out) hg hat); have n1_ := Aside0.mk (hb); have n2_ := Aside0.mk ((show Kd.C k36 w63 A62 y209.length y209 from by rw [Ny209.out, KA62.out]; exact Kd.C_mid (lo := 0) (hi := ((t150.length : Int) : Int).toNat) (c := co5) ((Kd.R_reads' (Kd.R_after (ok := (fun _ => True)) (by (with_reducible repeat (first | apply Kd.R_alloc | apply Kd.R_drewN | apply Kd.R_drew)); exact HO_3.out) hg hat)).2.2) KM62.out KL62.out ((Kd.R_reads' (Kd.R_after (ok := (fun _ => True)) (by (with_reducible repeat (first | apply Kd.R_alloc | apply Kd.R_drewN | apply Kd.R_drew)); exact HO_3.out) hg hat)).2.1))); have n3_ := Aside0.mk (ho); clear HO_3; clear HB; clear HR212; clear HO208; have HO_3 := n0_; have HB := n1_; have HR212 := n2_; have HO215 := n3_; clear n0_ n1_ n2_ n3_; clear ho hb hg hat))
                  go_ret
                  exact ⟨_, by first | rfl | (simp [errW_none, errW_some] <;> rfl) | (simp [*, errW_none, errW_some] <;> rfl), by (with_reducible repeat (first | apply Kd.R_alloc | apply Kd.R_drewN | apply Kd.R_drew)); exact Kd.R_mono HO215.out (fun _ hk => trivial), by repeat (first | (with_reducible first | exact HB.out | apply below_alloc | apply pw_below_drewN | apply below_drew1) | exact HB.out)⟩
                · rw [if_neg c59] at H
                  exact absurd H (by simp)
              · rw [if_neg c58] at H
                exact absurd H (by simp)
            · rw [if_neg c57] at H
              exact absurd H (by simp)
          · rw [if_neg c56] at H
            exact absurd H (by simp)

/-! ### spec_l4Unit: function 58 -/
mutual
def spec_l4Unit.l0 : Nat → Int → List (S36) → Int → Option (Int)
  | 0, _, _, _ => none
  | k + 1, x3, x4, x5 => if x5 < (x4.length : Int) then (if 0 ≤ x5 then (spec_l4Unit.l1 k x4 x5 x3 ((rd_T36 x4 x5).f1)) else (none)) else (some x3)
def spec_l4Unit.l1 : Nat → List (S36) → Int → Int → Int → Option (Int)
  | 0, _, _, _, _ => none
  | k + 1, x4, x5, x6, x7 => if x7 > 0 then (if x7 = 0 then (none) else (spec_l4Unit.l1 k x4 x5 x7 (Int.tmod x6 x7))) else (spec_l4Unit.l0 k x6 x4 (wrap64 (x5 + 1)))
end
def spec_l4Unit.f (k : Nat) (a0 : ByteArray) : Option (Int) := (spec_l4Inner.f k a0).bind fun t216 => (spec_l4Unit.l0 k 0 t216 0)
theorem spec_l4Unit.mono_l : ∀ k, (∀ y0 y1 y2, LeO (spec_l4Unit.l0 k y0 y1 y2) (spec_l4Unit.l0 (k + 1) y0 y1 y2)) ∧ (∀ y0 y1 y2 y3, LeO (spec_l4Unit.l1 k y0 y1 y2 y3) (spec_l4Unit.l1 (k + 1) y0 y1 y2 y3))
  | 0 => ⟨fun _ _ _ r h => by simp [spec_l4Unit.l0] at h, fun _ _ _ _ r h => by simp [spec_l4Unit.l1] at h⟩
  | k + 1 => by
    obtain ⟨ih0, ih1⟩ := spec_l4Unit.mono_l k
    refine ⟨?_, ?_⟩
    · intro y0 y1 y2
      unfold spec_l4Unit.l0
      repeat' first
      | (with_reducible exact ih0 _ _ _)
      | (with_reducible exact ih1 _ _ _ _)
      | (with_reducible exact spec_l4Inner.mono _ _)
      | (with_reducible exact LeO.refl _)
      | (with_reducible exact LeO.none _)
      | (with_reducible refine LeO.ite ?_ ?_)
      | (with_reducible refine LeO.bind ?_ (fun _ => ?_))
      | exact ih0 _ _ _
      | exact ih1 _ _ _ _
      | exact spec_l4Inner.mono _ _
      | exact LeO.none _
      | refine LeO.ite ?_ ?_
      | refine LeO.bind ?_ (fun _ => ?_)
    · intro y0 y1 y2 y3
      unfold spec_l4Unit.l1
      repeat' first
      | (with_reducible exact ih0 _ _ _)
      | (with_reducible exact ih1 _ _ _ _)
      | (with_reducible exact spec_l4Inner.mono _ _)
      | (with_reducible exact LeO.refl _)
      | (with_reducible exact LeO.none _)
      | (with_reducible refine LeO.ite ?_ ?_)
      | (with_reducible refine LeO.bind ?_ (fun _ => ?_))
      | exact ih0 _ _ _
      | exact ih1 _ _ _ _
      | exact spec_l4Inner.mono _ _
      | exact LeO.none _
      | refine LeO.ite ?_ ?_
      | refine LeO.bind ?_ (fun _ => ?_)
theorem spec_l4Unit.mono : ∀ a0 k, LeO (spec_l4Unit.f k a0) (spec_l4Unit.f (k + 1) a0) := by
  intro a0 k
  obtain ⟨ih0, ih1⟩ := spec_l4Unit.mono_l k
  unfold spec_l4Unit.f
  repeat' first
      | (with_reducible exact ih0 _ _ _)
      | (with_reducible exact ih1 _ _ _ _)
      | (with_reducible exact spec_l4Inner.mono _ _)
      | (with_reducible exact LeO.refl _)
      | (with_reducible exact LeO.none _)
      | (with_reducible refine LeO.ite ?_ ?_)
      | (with_reducible refine LeO.bind ?_ (fun _ => ?_))
      | exact ih0 _ _ _
      | exact ih1 _ _ _ _
      | exact spec_l4Inner.mono _ _
      | exact LeO.none _
      | refine LeO.ite ?_ ?_
      | refine LeO.bind ?_ (fun _ => ?_)
set_option maxHeartbeats 8000000 in
set_option maxRecDepth 100000 in
theorem spec_l4Unit.calls (k : Nat) (a0 : ByteArray) (r : Int) (w : World) (h : spec_l4Unit.f k a0 = some r) :
    Calls Tryd.prog 58 #[.string a0] w fun e w' => e = .returned (.int .i64 r) ∧ Below w.heap.size w w' := by
  have HB := Aside0.mk (Below.refl w.heap.size w)
  have H : ((spec_l4Inner.f k a0).bind fun t216 => (spec_l4Unit.l0 k 0 t216 0)) = some r := h
  clear h
  replace H := Option.bind_eq_some_iff.mp H
  obtain ⟨t216, A20, H⟩ := H
  replace H : (spec_l4Unit.l0 k 0 t216 0) = some r := H
  have A2 := Aside0.mk A20
  clear A20
  have H' := Aside0.mk H
  clear H
  go_enter Tryd.func58, Tryd.ntmps58
  go_wp2_with (first | (go_at_call 57; (with_reducible refine (spec_l4Inner.calls k a0 t216 _ A2.out).mono ?_); rintro e w3 ⟨v217, rfl, ho0, hb⟩; have n0_ := Aside0.mk (Kd.R_lower ho0 (below_size (by repeat (first | (with_reducible first | exact HB.out | apply below_alloc | apply pw_below_drewN | apply below_drew1) | exact HB.out)))); have n1_ := Aside0.mk (below_step (by repeat (first | (with_reducible first | exact HB.out | apply below_alloc | apply pw_below_drewN | apply below_drew1) | exact HB.out)) hb); clear HB; have HO218 := n0_; have HB := n1_; clear n0_ n1_; (try clear hb); (try clear hb2); (try clear hk); (try clear hi); (try clear ho0)))
  repeat (go_quiet (first | (go_at_call 57; (with_reducible refine (spec_l4Inner.calls k a0 t216 _ A2.out).mono ?_); rintro e w3 ⟨v217, rfl, ho0, hb⟩; have n0_ := Aside0.mk (Kd.R_lower ho0 (below_size (by repeat (first | (with_reducible first | exact HB.out | apply below_alloc | apply pw_below_drewN | apply below_drew1) | exact HB.out)))); have n1_ := Aside0.mk (below_step (by repeat (first | (with_reducible first | exact HB.out | apply below_alloc | apply pw_below_drewN | apply below_drew1) | exact HB.out)) hb); clear HB; have HO218 := n0_; have HB := n1_; clear n0_ n1_; (try clear hb); (try clear hb2); (try clear hk); (try clear hi); (try clear ho0))); try go_wp2_with (first | (go_at_call 57; (with_reducible refine (spec_l4Inner.calls k a0 t216 _ A2.out).mono ?_); rintro e w3 ⟨v217, rfl, ho0, hb⟩; have n0_ := Aside0.mk (Kd.R_lower ho0 (below_size (by repeat (first | (with_reducible first | exact HB.out | apply below_alloc | apply pw_below_drewN | apply below_drew1) | exact HB.out)))); have n1_ := Aside0.mk (below_step (by repeat (first | (with_reducible first | exact HB.out | apply below_alloc | apply pw_below_drewN | apply below_drew1) | exact HB.out)) hb); clear HB; have HO218 := n0_; have HB := n1_; clear n0_ n1_; (try clear hb); (try clear hb2); (try clear hk); (try clear hi); (try clear ho0))))
  go_loopg [3, 5] k (fun kq v3 v5 w' => ∃ (x3_1 : Int) (x5_1 : Int), v3 = .int .i64 x3_1 ∧ v5 = .int .i64 x5_1 ∧ Aside0 (spec_l4Unit.l0 kq x3_1 t216 x5_1 = some r) ∧ Aside0 (kq ≤ k) ∧ Aside0 (Kd.R k36 36 w' w.heap.size (fun _ => True) v217 t216) ∧ Aside0 (Below w.heap.size w w'))
  case atStart => exact ⟨(0), (0), (by first | rfl | (simp; done) | (simp [*]; done)), (by first | rfl | (simp; done) | (simp [*]; done)), H', ⟨Nat.le_refl _⟩, ⟨by (with_reducible repeat (first | apply Kd.R_alloc | apply Kd.R_drewN | apply Kd.R_drew)); exact HO218.out⟩, ⟨by repeat (first | (with_reducible first | exact HB.out | apply below_alloc | apply pw_below_drewN | apply below_drew1) | exact HB.out)⟩⟩
  case round =>
    clear H'
    try clear p2
    obtain ⟨x3_1, x5_1, rfl, rfl, HA, HK1, HO_4, HB⟩ := hrel
    cases gk with
    | zero => exact absurd HA.out (by simp [spec_l4Unit.l0])
    | succ k1 =>
      have H := HA.out
      clear HA
      simp only [spec_l4Unit.l0] at H
      by_cases c4 : x5_1 < (t216.length : Int)
      · rw [if_pos c4] at H
        have c4b0 : decide (x5_1 < (t216.length : Int)) = true := decide_eq_true c4
        clear c4
        by_cases c5 : 0 ≤ x5_1
        · rw [if_pos c5] at H
          have c5b0 : decide (0 ≤ x5_1) = true := decide_eq_true c5
          clear c5
          have H' := Aside0.mk H
          clear H
          obtain ⟨Ao6, co6, eo6⟩ := Kd.R_slice HO_4.out
          subst eo6
          have p219 : 0 ≤ (x5_1 : Int) := of_decide_eq_true (by first | (with_reducible assumption) | assumption)
          have q219 : x5_1 < (t216.length : Int) := of_decide_eq_true (by first | (with_reducible assumption) | assumption)
          obtain ⟨ad219, e219, hx219_0, hx219_1⟩ := at_T36 (Kd.R_reads' HO_4.out).2.2 x5_1 p219 q219
          cases e219
          replace p219 := eq_true p219
          replace q219 := eq_true q219
          go_wp2
          repeat (go_quiet (fail); try go_wp2)
          go_loopg [6, 7] k1 (fun kq v6 v7 w' => ∃ (x6_2 : Int) (x7_2 : Int), v6 = .int .i64 x6_2 ∧ v7 = .int .i64 x7_2 ∧ Aside0 (spec_l4Unit.l1 kq t216 x5_1 x6_2 x7_2 = some r) ∧ Aside0 (kq ≤ k1) ∧ Aside0 (Kd.R k36 36 w' w.heap.size (fun _ => True) (.slice (some ad219) t216.length co6) t216) ∧ Aside0 (Below w.heap.size w w'))
          case atStart => exact ⟨(x3_1), ((rd_T36 t216 x5_1).f1), (by first | rfl | (simp; done) | (simp [*]; done)), (by first | rfl | (simp; done) | (simp [*]; done)), H', ⟨Nat.le_refl _⟩, ⟨by (with_reducible repeat (first | apply Kd.R_alloc | apply Kd.R_drewN | apply Kd.R_drew)); exact HO_4.out⟩, ⟨by repeat (first | (with_reducible first | exact HB.out | apply below_alloc | apply pw_below_drewN | apply below_drew1) | exact HB.out)⟩⟩
          case round =>
            clear H'
            try clear p2
            try clear q2
            try clear hx2
            try clear c4
            try clear c4b0
            try clear c5
            try clear c5b0
            try clear hx219_0
            try clear hx219_1
            try clear p2
            try clear p219
            try clear q219
            obtain ⟨x6_2, x7_2, rfl, rfl, HA, HK2, HO_4, HB⟩ := hrel
            cases gk with
            | zero => exact absurd HA.out (by simp [spec_l4Unit.l1])
            | succ k2 =>
              have H := HA.out
              clear HA
              simp only [spec_l4Unit.l1] at H
              by_cases c7 : x7_2 > 0
              · rw [if_pos c7] at H
                have c7b0 : decide (0 < x7_2) = true := decide_eq_true c7
                clear c7
                by_cases c8 : x7_2 = 0
                · rw [if_pos c8] at H
                  exact absurd H (by simp)
                · rw [if_neg c8] at H
                  have c8b0 : (x7_2 == 0) = false := beq_eq_false_iff_ne.mpr c8
                  have c8b1 : (x7_2 != 0) = true := bne_iff_ne.mpr c8
                  have H' := Aside0.mk H
                  clear H
                  go_wp2
                  repeat (go_quiet (fail); try go_wp2)
                  go_roundg k2
                  case measure => have := HK1.out; have := HK2.out; omega
                  case rel => exact ⟨(x7_2), (Int.tmod x6_2 x7_2), (by first | rfl | (simp; done) | (simp [*]; done)), (by first | rfl | (simp; done) | (simp [*]; done)), H', ⟨by have := HK1.out; have := HK2.out; omega⟩, ⟨by (with_reducible repeat (first | apply Kd.R_alloc | apply Kd.R_drewN | apply Kd.R_drew)); exact HO_4.out⟩, ⟨by repeat (first | (with_reducible first | exact HB.out | apply below_alloc | apply pw_below_drewN | apply below_drew1) | exact HB.out)⟩⟩
              · rw [if_neg c7] at H
                have c7b0 : decide (0 < x7_2) = false := decide_eq_false c7
                clear c7
                have H' := Aside0.mk H
                clear H
                go_wp2
                repeat (go_quiet (fail); try go_wp2)
                go_roundg k2
                case measure => have := HK1.out; have := HK2.out; omega
                case rel => exact ⟨(x6_2), (wrap64 (x5_1 + 1)), (by first | rfl | (simp; done) | (simp [*]; done)), (by first | rfl | (simp; done) | (simp [*]; done)), H', ⟨by have := HK1.out; have := HK2.out; omega⟩, ⟨by (with_reducible repeat (first | apply Kd.R_alloc | apply Kd.R_drewN | apply Kd.R_drew)); exact HO_4.out⟩, ⟨by repeat (first | (with_reducible first | exact HB.out | apply below_alloc | apply pw_below_drewN | apply below_drew1) | exact HB.out)⟩⟩
        · rw [if_neg c5] at H
          exact absurd H (by simp)
      · rw [if_neg c4] at H
        have c4b0 : decide (x5_1 < (t216.length : Int)) = false := decide_eq_false c4
        clear c4
        obtain rfl := Option.some.inj H
        obtain ⟨Ao9, co9, eo9⟩ := Kd.R_slice HO_4.out
        subst eo9
        go_wp2
        repeat (go_quiet (fail); try go_wp2)
        go_ret
        exact ⟨by first | rfl | (simp [errW_none, errW_some] <;> rfl) | (simp [*, errW_none, errW_some] <;> rfl), by repeat (first | (with_reducible first | exact HB.out | apply below_alloc | apply pw_below_drewN | apply below_drew1) | exact HB.out)⟩

/-! ### spec_l4Many: function 59 -/
def spec_l4Many.l0 : Nat → ByteArray → Int → ByteArray → Int → Option (ByteArray)
  | 0, _, _, _, _ => none
  | k + 1, x0, x1, x5, x6 => if x6 < x1 then (if x5.size + x0.size ≤ 9223372036854775807 then (spec_l4Many.l0 k x0 x1 (x5 ++ x0) (wrap64 (x6 + 1))) else (none)) else (some x5)
def spec_l4Many.f (k : Nat) (a0 : ByteArray) (a1 : Int) : Option (ByteArray) := spec_l4Many.l0 k a0 a1 (⟨#[]⟩ : ByteArray) 0
theorem spec_l4Many.mono_l : ∀ k, (∀ y0 y1 y2 y3, LeO (spec_l4Many.l0 k y0 y1 y2 y3) (spec_l4Many.l0 (k + 1) y0 y1 y2 y3))
  | 0 => fun _ _ _ _ r h => by simp [spec_l4Many.l0] at h
  | k + 1 => by
    have ih0 := spec_l4Many.mono_l k
    · intro y0 y1 y2 y3
      unfold spec_l4Many.l0
      repeat' first
      | (with_reducible exact ih0 _ _ _ _)
      | (with_reducible exact LeO.refl _)
      | (with_reducible exact LeO.none _)
      | (with_reducible refine LeO.ite ?_ ?_)
      | (with_reducible refine LeO.bind ?_ (fun _ => ?_))
      | exact ih0 _ _ _ _
      | exact LeO.none _
      | refine LeO.ite ?_ ?_
      | refine LeO.bind ?_ (fun _ => ?_)
theorem spec_l4Many.mono : ∀ a0 a1 k, LeO (spec_l4Many.f k a0 a1) (spec_l4Many.f (k + 1) a0 a1) := by
  intro a0 a1 k
  have ih0 := spec_l4Many.mono_l k
  unfold spec_l4Many.f
  repeat' first
      | (with_reducible exact ih0 _ _ _ _)
      | (with_reducible exact LeO.refl _)
      | (with_reducible exact LeO.none _)
      | (with_reducible refine LeO.ite ?_ ?_)
      | (with_reducible refine LeO.bind ?_ (fun _ => ?_))
      | exact ih0 _ _ _ _
      | exact LeO.none _
      | refine LeO.ite ?_ ?_
      | refine LeO.bind ?_ (fun _ => ?_)
set_option maxHeartbeats 8000000 in
set_option maxRecDepth 100000 in
theorem spec_l4Many.calls (k : Nat) (a0 : ByteArray) (a1 : Int) (r : ByteArray) (w : World) (h : spec_l4Many.f k a0 a1 = some r) :
    Calls Tryd.prog 59 #[.string a0, .int .i64 a1] w fun e w' => e = .returned (.string r) ∧ Drawn0 w w' := by
  have H : (spec_l4Many.l0 k a0 a1 (⟨#[]⟩ : ByteArray) 0) = some r := h
  clear h
  have H' := Aside0.mk H
  clear H
  go_enter Tryd.func59, Tryd.ntmps59
  go_wp2
  go_loopg [5, 6] k (fun kq v5 v6 w' => ∃ (x5_1 : ByteArray) (x6_1 : Int), v5 = .string x5_1 ∧ v6 = .int .i64 x6_1 ∧ Aside0 (spec_l4Many.l0 kq a0 a1 x5_1 x6_1 = some r) ∧ Aside0 (kq ≤ k) ∧ Drawn0 w w')
  case atStart => exact ⟨((⟨#[]⟩ : ByteArray)), (0), (by first | rfl | (simp; done) | (simp [*]; done)), (by first | rfl | (simp; done) | (simp [*]; done)), H', ⟨Nat.le_refl _⟩, by repeat (first | exact Drawn0.refl _ | apply Drawn0.step)⟩
  case round =>
    clear H'
    try clear p2
    obtain ⟨x5_1, x6_1, rfl, rfl, HA, HK1, ⟨m1, rfl⟩⟩ := hrel
    cases gk with
    | zero => exact absurd HA.out (by simp [spec_l4Many.l0])
    | succ k1 =>
      have H := HA.out
      clear HA
      simp only [spec_l4Many.l0] at H
      by_cases c3 : x6_1 < a1
      · rw [if_pos c3] at H
        have c3b0 : decide (x6_1 < a1) = true := decide_eq_true c3
        clear c3
        by_cases c4 : x5_1.size + a0.size ≤ 9223372036854775807
        · rw [if_pos c4] at H
          have c4b0 := eq_true c4
          have c4b1 : decide (x5_1.size + a0.size ≤ 9223372036854775807) = true := decide_eq_true c4
          try have c4b2 : (9223372036854775807 < x5_1.size + a0.size) = False := eq_false (Nat.not_lt.2 c4)
          have H' := Aside0.mk H
          clear H
          go_wp2
          go_roundg k1
          case measure => have := HK1.out; omega
          case rel => exact ⟨(x5_1 ++ a0), (wrap64 (x6_1 + 1)), (by first | rfl | (simp; done) | (simp [*]; done)), (by first | rfl | (simp; done) | (simp [*]; done)), H', ⟨by have := HK1.out; omega⟩, by repeat (first | exact Drawn0.refl _ | apply Drawn0.step)⟩
        · rw [if_neg c4] at H
          exact absurd H (by simp)
      · rw [if_neg c3] at H
        have c3b0 : decide (x6_1 < a1) = false := decide_eq_false c3
        clear c3
        obtain rfl := Option.some.inj H
        go_wp2
        go_ret
        exact ⟨by first | rfl | (simp; done) | (simp [*]; done), by repeat (first | exact Drawn0.refl _ | apply Drawn0.step)⟩

/-! ### spec_l4Plain: function 35 -/
def spec_l4Plain.l0 : Nat → ByteArray → List (S36) → Int → Int → Option (ByteArray)
  | 0, _, _, _, _ => none
  | k + 1, x3, x4, x5, x6 => if x6 < (x4.length : Int) then (if 0 ≤ x6 then (if 0 ≤ ((rd_T36 x4 x6).f0) then (if ((rd_T36 x4 x6).f0) ≤ (wrap64 (((rd_T36 x4 x6).f0) + 1)) then (if (wrap64 (((rd_T36 x4 x6).f0) + 1)) ≤ 2 then (if x5 = 0 then (none) else ((spec_l4Many.f k ((⟨#[48, 49]⟩ : ByteArray).extract (((rd_T36 x4 x6).f0) : Int).toNat ((wrap64 (((rd_T36 x4 x6).f0) + 1)) : Int).toNat) (wrap64 (Int.tdiv ((rd_T36 x4 x6).f1) x5))).bind fun t227 => (if x3.size + t227.size ≤ 9223372036854775807 then (spec_l4Plain.l0 k (x3 ++ t227) x4 x5 (wrap64 (x6 + 1))) else (none)))) else (none)) else (none)) else (none)) else (none)) else (some x3)
def spec_l4Plain.f (k : Nat) (a0 : ByteArray) : Option (ByteArray) := (spec_l4Inner.f k a0).bind fun t220 => ((spec_l4Unit.f k a0).bind fun t223 => (spec_l4Plain.l0 k (⟨#[]⟩ : ByteArray) t220 t223 0))
theorem spec_l4Plain.mono_l : ∀ k, (∀ y0 y1 y2 y3, LeO (spec_l4Plain.l0 k y0 y1 y2 y3) (spec_l4Plain.l0 (k + 1) y0 y1 y2 y3))
  | 0 => fun _ _ _ _ r h => by simp [spec_l4Plain.l0] at h
  | k + 1 => by
    have ih0 := spec_l4Plain.mono_l k
    · intro y0 y1 y2 y3
      unfold spec_l4Plain.l0
      repeat' first
      | (with_reducible exact ih0 _ _ _ _)
      | (with_reducible exact spec_l4Inner.mono _ _)
      | (with_reducible exact spec_l4Many.mono _ _ _)
      | (with_reducible exact spec_l4Unit.mono _ _)
      | (with_reducible exact LeO.refl _)
      | (with_reducible exact LeO.none _)
      | (with_reducible refine LeO.ite ?_ ?_)
      | (with_reducible refine LeO.bind ?_ (fun _ => ?_))
      | exact ih0 _ _ _ _
      | exact spec_l4Inner.mono _ _
      | exact spec_l4Many.mono _ _ _
      | exact spec_l4Unit.mono _ _
      | exact LeO.none _
      | refine LeO.ite ?_ ?_
      | refine LeO.bind ?_ (fun _ => ?_)
theorem spec_l4Plain.mono : ∀ a0 k, LeO (spec_l4Plain.f k a0) (spec_l4Plain.f (k + 1) a0) := by
  intro a0 k
  have ih0 := spec_l4Plain.mono_l k
  unfold spec_l4Plain.f
  repeat' first
      | (with_reducible exact ih0 _ _ _ _)
      | (with_reducible exact spec_l4Inner.mono _ _)
      | (with_reducible exact spec_l4Many.mono _ _ _)
      | (with_reducible exact spec_l4Unit.mono _ _)
      | (with_reducible exact LeO.refl _)
      | (with_reducible exact LeO.none _)
      | (with_reducible refine LeO.ite ?_ ?_)
      | (with_reducible refine LeO.bind ?_ (fun _ => ?_))
      | exact ih0 _ _ _ _
      | exact spec_l4Inner.mono _ _
      | exact spec_l4Many.mono _ _ _
      | exact spec_l4Unit.mono _ _
      | exact LeO.none _
      | refine LeO.ite ?_ ?_
      | refine LeO.bind ?_ (fun _ => ?_)
set_option maxHeartbeats 8000000 in
set_option maxRecDepth 100000 in
theorem spec_l4Plain.calls (k : Nat) (a0 : ByteArray) (r : ByteArray) (w : World) (h : spec_l4Plain.f k a0 = some r) :
    Calls Tryd.prog 35 #[.string a0] w fun e w' => e = .returned (.string r) ∧ Below w.heap.size w w' := by
  have HB := Aside0.mk (Below.refl w.heap.size w)
  have H : ((spec_l4Inner.f k a0).bind fun t220 => ((spec_l4Unit.f k a0).bind fun t223 => (spec_l4Plain.l0 k (⟨#[]⟩ : ByteArray) t220 t223 0))) = some r := h
  clear h
  replace H := Option.bind_eq_some_iff.mp H
  obtain ⟨t220, A20, H⟩ := H
  replace H : ((spec_l4Unit.f k a0).bind fun t223 => (spec_l4Plain.l0 k (⟨#[]⟩ : ByteArray) t220 t223 0)) = some r := H
  have A2 := Aside0.mk A20
  clear A20
  replace H := Option.bind_eq_some_iff.mp H
  obtain ⟨t223, A30, H⟩ := H
  replace H : (spec_l4Plain.l0 k (⟨#[]⟩ : ByteArray) t220 t223 0) = some r := H
  have A3 := Aside0.mk A30
  clear A30
  have H' := Aside0.mk H
  clear H
  go_enter Tryd.func35, Tryd.ntmps35
  go_wp2_with (first | (go_at_call 57; (with_reducible refine (spec_l4Inner.calls k a0 t220 _ A2.out).mono ?_); rintro e w4 ⟨v221, rfl, ho0, hb⟩; have n0_ := Aside0.mk (Kd.R_lower ho0 (below_size (by repeat (first | (with_reducible first | exact HB.out | apply below_alloc | apply pw_below_drewN | apply below_drew1) | exact HB.out)))); have n1_ := Aside0.mk (below_step (by repeat (first | (with_reducible first | exact HB.out | apply below_alloc | apply pw_below_drewN | apply below_drew1) | exact HB.out)) hb); clear HB; have HO222 := n0_; have HB := n1_; clear n0_ n1_; (try clear hb); (try clear hb2); (try clear hk); (try clear hi); (try clear ho0)) | (go_at_call 58; (with_reducible refine (spec_l4Unit.calls k a0 t223 _ A3.out).mono ?_); rintro e w5 ⟨rfl, hb⟩; have n0_ := Aside0.mk (Kd.R_below (by (with_reducible repeat (first | apply Kd.R_alloc | apply Kd.R_drewN | apply Kd.R_drew)); exact HO222.out) hb); have n1_ := Aside0.mk (below_step (by repeat (first | (with_reducible first | exact HB.out | apply below_alloc | apply pw_below_drewN | apply below_drew1) | exact HB.out)) hb); clear HO222; clear HB; have HO222 := n0_; have HB := n1_; clear n0_ n1_; (try clear hb); (try clear hb2); (try clear hk); (try clear hi)))
  repeat (go_quiet (first | (go_at_call 57; (with_reducible refine (spec_l4Inner.calls k a0 t220 _ A2.out).mono ?_); rintro e w4 ⟨v221, rfl, ho0, hb⟩; have n0_ := Aside0.mk (Kd.R_lower ho0 (below_size (by repeat (first | (with_reducible first | exact HB.out | apply below_alloc | apply pw_below_drewN | apply below_drew1) | exact HB.out)))); have n1_ := Aside0.mk (below_step (by repeat (first | (with_reducible first | exact HB.out | apply below_alloc | apply pw_below_drewN | apply below_drew1) | exact HB.out)) hb); clear HB; have HO222 := n0_; have HB := n1_; clear n0_ n1_; (try clear hb); (try clear hb2); (try clear hk); (try clear hi); (try clear ho0)) | (go_at_call 58; (with_reducible refine (spec_l4Unit.calls k a0 t223 _ A3.out).mono ?_); rintro e w5 ⟨rfl, hb⟩; have n0_ := Aside0.mk (Kd.R_below (by (with_reducible repeat (first | apply Kd.R_alloc | apply Kd.R_drewN | apply Kd.R_drew)); exact HO222.out) hb); have n1_ := Aside0.mk (below_step (by repeat (first | (with_reducible first | exact HB.out | apply below_alloc | apply pw_below_drewN | apply below_drew1) | exact HB.out)) hb); clear HO222; clear HB; have HO222 := n0_; have HB := n1_; clear n0_ n1_; (try clear hb); (try clear hb2); (try clear hk); (try clear hi))); try go_wp2_with (first | (go_at_call 57; (with_reducible refine (spec_l4Inner.calls k a0 t220 _ A2.out).mono ?_); rintro e w4 ⟨v221, rfl, ho0, hb⟩; have n0_ := Aside0.mk (Kd.R_lower ho0 (below_size (by repeat (first | (with_reducible first | exact HB.out | apply below_alloc | apply pw_below_drewN | apply below_drew1) | exact HB.out)))); have n1_ := Aside0.mk (below_step (by repeat (first | (with_reducible first | exact HB.out | apply below_alloc | apply pw_below_drewN | apply below_drew1) | exact HB.out)) hb); clear HB; have HO222 := n0_; have HB := n1_; clear n0_ n1_; (try clear hb); (try clear hb2); (try clear hk); (try clear hi); (try clear ho0)) | (go_at_call 58; (with_reducible refine (spec_l4Unit.calls k a0 t223 _ A3.out).mono ?_); rintro e w5 ⟨rfl, hb⟩; have n0_ := Aside0.mk (Kd.R_below (by (with_reducible repeat (first | apply Kd.R_alloc | apply Kd.R_drewN | apply Kd.R_drew)); exact HO222.out) hb); have n1_ := Aside0.mk (below_step (by repeat (first | (with_reducible first | exact HB.out | apply below_alloc | apply pw_below_drewN | apply below_drew1) | exact HB.out)) hb); clear HO222; clear HB; have HO222 := n0_; have HB := n1_; clear n0_ n1_; (try clear hb); (try clear hb2); (try clear hk); (try clear hi))))
  go_loopg [3, 6] k (fun kq v3 v6 w' => ∃ (x3_1 : ByteArray) (x6_1 : Int), v3 = .string x3_1 ∧ v6 = .int .i64 x6_1 ∧ Aside0 (spec_l4Plain.l0 kq x3_1 t220 t223 x6_1 = some r) ∧ Aside0 (kq ≤ k) ∧ Aside0 (Kd.R k36 36 w' w.heap.size (fun _ => True) v221 t220) ∧ Aside0 (Below w.heap.size w w'))
  case atStart => exact ⟨((⟨#[]⟩ : ByteArray)), (0), (by first | rfl | (simp; done) | (simp [*]; done)), (by first | rfl | (simp; done) | (simp [*]; done)), H', ⟨Nat.le_refl _⟩, ⟨by (with_reducible repeat (first | apply Kd.R_alloc | apply Kd.R_drewN | apply Kd.R_drew)); exact HO222.out⟩, ⟨by repeat (first | (with_reducible first | exact HB.out | apply below_alloc | apply pw_below_drewN | apply below_drew1) | exact HB.out)⟩⟩
  case round =>
    clear H'
    try clear p2
    try clear c3
    obtain ⟨x3_1, x6_1, rfl, rfl, HA, HK1, HO_4, HB⟩ := hrel
    cases gk with
    | zero => exact absurd HA.out (by simp [spec_l4Plain.l0])
    | succ k1 =>
      have H := HA.out
      clear HA
      simp only [spec_l4Plain.l0] at H
      by_cases c6 : x6_1 < (t220.length : Int)
      · rw [if_pos c6] at H
        have c6b0 : decide (x6_1 < (t220.length : Int)) = true := decide_eq_true c6
        clear c6
        by_cases c7 : 0 ≤ x6_1
        · rw [if_pos c7] at H
          have c7b0 : decide (0 ≤ x6_1) = true := decide_eq_true c7
          clear c7
          by_cases c8 : 0 ≤ ((rd_T36 t220 x6_1).f0)
          · rw [if_pos c8] at H
            have c8b0 := eq_true c8
            have c8b1 : decide (0 ≤ ((rd_T36 t220 x6_1).f0)) = true := decide_eq_true c8
            clear c8
            by_cases c9 : ((rd_T36 t220 x6_1).f0) ≤ (wrap64 (((rd_T36 t220 x6_1).f0) + 1))
            · rw [if_pos c9] at H
              have c9b0 := eq_true c9
              have c9b1 : decide (((rd_T36 t220 x6_1).f0) ≤ (wrap64 (((rd_T36 t220 x6_1).f0) + 1))) = true := decide_eq_true c9
              by_cases c10 : (wrap64 (((rd_T36 t220 x6_1).f0) + 1)) ≤ 2
              · rw [if_pos c10] at H
                have c10b0 := eq_true c10
                have c10b1 : decide ((wrap64 (((rd_T36 t220 x6_1).f0) + 1)) ≤ 2) = true := decide_eq_true c10
                by_cases c11 : t223 = 0
                · rw [if_pos c11] at H
                  exact absurd H (by simp)
                · rw [if_neg c11] at H
                  have c11b0 : (t223 == 0) = false := beq_eq_false_iff_ne.mpr c11
                  have c11b1 : (t223 != 0) = true := bne_iff_ne.mpr c11
                  replace H := Option.bind_eq_some_iff.mp H
                  obtain ⟨t227, A120, H⟩ := H
                  replace H : (if x3_1.size + t227.size ≤ 9223372036854775807 then (spec_l4Plain.l0 k1 (x3_1 ++ t227) t220 t223 (wrap64 (x6_1 + 1))) else (none)) = some r := H
                  have A12 := Aside0.mk A120
                  clear A120
                  by_cases c13 : x3_1.size + t227.size ≤ 9223372036854775807
                  · rw [if_pos c13] at H
                    have c13b0 := eq_true c13
                    have c13b1 : decide (x3_1.size + t227.size ≤ 9223372036854775807) = true := decide_eq_true c13
                    try have c13b2 : (9223372036854775807 < x3_1.size + t227.size) = False := eq_false (Nat.not_lt.2 c13)
                    have H' := Aside0.mk H
                    clear H
                    obtain ⟨Ao14, co14, eo14⟩ := Kd.R_slice HO_4.out
                    subst eo14
                    have p224 : 0 ≤ (x6_1 : Int) := of_decide_eq_true (by first | (with_reducible assumption) | assumption)
                    have q224 : x6_1 < (t220.length : Int) := of_decide_eq_true (by first | (with_reducible assumption) | assumption)
                    obtain ⟨ad224, e224, hx224_0, hx224_1⟩ := at_T36 (Kd.R_reads' HO_4.out).2.2 x6_1 p224 q224
                    cases e224
                    replace p224 := eq_true p224
                    replace q224 := eq_true q224
                    have p225 : 0 ≤ (x6_1 : Int) := of_decide_eq_true (by first | (with_reducible assumption) | assumption)
                    have q225 : x6_1 < (t220.length : Int) := of_decide_eq_true (by first | (with_reducible assumption) | assumption)
                    obtain ⟨ad225, e225, hx225_0, hx225_1⟩ := at_T36 (Kd.R_reads' HO_4.out).2.2 x6_1 p225 q225
                    obtain rfl : ad224 = ad225 := (by injection e225)
                    replace p225 := eq_true p225
                    replace q225 := eq_true q225
                    have p226 : 0 ≤ (x6_1 : Int) := of_decide_eq_true (by first | (with_reducible assumption) | assumption)
                    have q226 : x6_1 < (t220.length : Int) := of_decide_eq_true (by first | (with_reducible assumption) | assumption)
                    obtain ⟨ad226, e226, hx226_0, hx226_1⟩ := at_T36 (Kd.R_reads' HO_4.out).2.2 x6_1 p226 q226
                    obtain rfl : ad224 = ad226 := (by injection e226)
                    replace p226 := eq_true p226
                    replace q226 := eq_true q226
                    go_wp2_with (first | (go_at_call 59; (with_reducible refine (spec_l4Many.calls k1 ((⟨#[48, 49]⟩ : ByteArray).extract (((rd_T36 t220 x6_1).f0) : Int).toNat ((wrap64 (((rd_T36 t220 x6_1).f0) + 1)) : Int).toNat) (wrap64 (Int.tdiv ((rd_T36 t220 x6_1).f1) t223)) t227 _ A12.out).mono ?_); rintro e w' ⟨rfl, ⟨nd, rfl⟩⟩; (try first | exact ⟨rfl, _, World.drewN_drewN _ _ _⟩ | exact ⟨rfl, _, Eq.trans (World.drewN_drewN _ _ _) (congrArg (World.drewN _) (Nat.add_assoc _ _ _))⟩)))
                    repeat (go_quiet (first | (go_at_call 59; (with_reducible refine (spec_l4Many.calls k1 ((⟨#[48, 49]⟩ : ByteArray).extract (((rd_T36 t220 x6_1).f0) : Int).toNat ((wrap64 (((rd_T36 t220 x6_1).f0) + 1)) : Int).toNat) (wrap64 (Int.tdiv ((rd_T36 t220 x6_1).f1) t223)) t227 _ A12.out).mono ?_); rintro e w' ⟨rfl, ⟨nd, rfl⟩⟩; (try first | exact ⟨rfl, _, World.drewN_drewN _ _ _⟩ | exact ⟨rfl, _, Eq.trans (World.drewN_drewN _ _ _) (congrArg (World.drewN _) (Nat.add_assoc _ _ _))⟩))); try go_wp2_with (first | (go_at_call 59; (with_reducible refine (spec_l4Many.calls k1 ((⟨#[48, 49]⟩ : ByteArray).extract (((rd_T36 t220 x6_1).f0) : Int).toNat ((wrap64 (((rd_T36 t220 x6_1).f0) + 1)) : Int).toNat) (wrap64 (Int.tdiv ((rd_T36 t220 x6_1).f1) t223)) t227 _ A12.out).mono ?_); rintro e w' ⟨rfl, ⟨nd, rfl⟩⟩; (try first | exact ⟨rfl, _, World.drewN_drewN _ _ _⟩ | exact ⟨rfl, _, Eq.trans (World.drewN_drewN _ _ _) (congrArg (World.drewN _) (Nat.add_assoc _ _ _))⟩))))
                    go_roundg k1
                    case measure => have := HK1.out; omega
                    case rel => exact ⟨(x3_1 ++ t227), (wrap64 (x6_1 + 1)), (by first | rfl | (simp; done) | (simp [*]; done)), (by first | rfl | (simp; done) | (simp [*]; done)), H', ⟨by have := HK1.out; omega⟩, ⟨by (with_reducible repeat (first | apply Kd.R_alloc | apply Kd.R_drewN | apply Kd.R_drew)); exact HO_4.out⟩, ⟨by repeat (first | (with_reducible first | exact HB.out | apply below_alloc | apply pw_below_drewN | apply below_drew1) | exact HB.out)⟩⟩
                  · rw [if_neg c13] at H
                    exact absurd H (by simp)
              · rw [if_neg c10] at H
                exact absurd H (by simp)
            · rw [if_neg c9] at H
              exact absurd H (by simp)
          · rw [if_neg c8] at H
            exact absurd H (by simp)
        · rw [if_neg c7] at H
          exact absurd H (by simp)
      · rw [if_neg c6] at H
        have c6b0 : decide (x6_1 < (t220.length : Int)) = false := decide_eq_false c6
        clear c6
        obtain rfl := Option.some.inj H
        obtain ⟨Ao15, co15, eo15⟩ := Kd.R_slice HO_4.out
        subst eo15
        go_wp2
        repeat (go_quiet (fail); try go_wp2)
        go_ret
        exact ⟨by first | rfl | (simp [errW_none, errW_some] <;> rfl) | (simp [*, errW_none, errW_some] <;> rfl), by repeat (first | (with_reducible first | exact HB.out | apply below_alloc | apply pw_below_drewN | apply below_drew1) | exact HB.out)⟩

end Go.Proofs.YtbdagfdhkobbcaaDoor.HFnExactReadLine
