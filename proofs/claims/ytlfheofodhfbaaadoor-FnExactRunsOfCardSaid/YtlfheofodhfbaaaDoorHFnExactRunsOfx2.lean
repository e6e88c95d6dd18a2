/- What the machine does at each Go function that the law reaches is what the Lean function of its name says. -/
import Derived.Test.YtlfheofodhfbaaaDoorHFnExactRunsOfx0
namespace Go.Proofs.YtlfheofodhfbaaaDoor.HFnExactRunsOf
open Go.RowKit Go.Proofs.YtlfheofodhfbaaaDoorW.PrintWords Go.Proofs.YtlfheofodhfbaaaDoorW.PrintLast Go.Proofs.YtlfheofodhfbaaaDoorW.PrintMore
attribute [local go_sem] max2_int min2_int max_two min_two max_three min_three max_four min_four   -- for this text's walks alone
set_option linter.unusedVariables false
set_option linter.unusedSimpArgs false

/-! ### strings_Trim: function 32 (by hand) -/
def strings_Trim.f (a0 : ByteArray) (a1 : ByteArray) : Option ByteArray := if a0.size ≤ 9223372036854775807 then (if a1.size < 4294967281 then (if a1.data.toList.all (fun b => decide (b.toNat < 128)) = true then some ⟨(Lib.trimS a0.data.toList a1.data.toList).toArray⟩ else none) else none) else none
theorem strings_Trim.calls (a0 : ByteArray) (a1 : ByteArray) (r : ByteArray) (w : World) (h : strings_Trim.f a0 a1 = some r) :
    Calls Tryd.prog 32 #[.string a0, .string a1] w fun e w' => e = .returned (.string r) ∧ Below w.heap.size w w' := by
  unfold strings_Trim.f at h
  by_cases h1 : a0.size ≤ 9223372036854775807
  · rw [if_pos h1] at h
    by_cases h2 : a1.size < 4294967281
    · rw [if_pos h2] at h
      by_cases h3 : a1.data.toList.all (fun b => decide (b.toNat < 128)) = true
      · rw [if_pos h3] at h
        obtain rfl := Option.some.inj h
        exact Any.strings_Trim_laid Tryd.l160 (by kernel_rfl) a0 a1 w h1 h2 (ascii_of_all h3)
      · rw [if_neg h3] at h; cases h
    · rw [if_neg h2] at h; cases h
  · rw [if_neg h1] at h; cases h


/-! ### impl_IsLine: function 20 -/
def impl_IsLine.f (a0 : ByteArray) : Option (Bool) := if (a0.size : Int) ≤ 200 then ((strings_Trim.f a0 (⟨#[48, 49]⟩ : ByteArray)).bind fun t119 => (some (t119.toList == ([] : List UInt8)))) else (some false)
set_option maxHeartbeats 8000000 in
set_option maxRecDepth 100000 in
theorem impl_IsLine.calls (a0 : ByteArray) (r : Bool) (w : World) (h : impl_IsLine.f a0 = some r) :
    Calls Tryd.prog 20 #[.string a0] w fun e w' => e = .returned (.bool r) ∧ Below w.heap.size w w' := by
  have HB := Aside0.mk (Below.refl w.heap.size w)
  have H : (if (a0.size : Int) ≤ 200 then ((strings_Trim.f a0 (⟨#[48, 49]⟩ : ByteArray)).bind fun t119 => (some (t119.toList == ([] : List UInt8)))) else (some false)) = some r := h
  clear h
  by_cases c2 : (a0.size : Int) ≤ 200
  · rw [if_pos c2] at H
    have c2b0 : decide ((a0.size : Int) ≤ 200) = true := decide_eq_true c2
    have c2b1 : decide (a0.size ≤ 200) = true := decide_eq_true (by omega)
    clear c2
    replace H := Option.bind_eq_some_iff.mp H
    obtain ⟨t119, A30, H⟩ := H
    replace H : (some (t119.toList == ([] : List UInt8))) = some r := H
    have A3 := Aside0.mk A30
    clear A30
    obtain rfl := Option.some.inj H
    go_enter Tryd.func20, Tryd.ntmps20
    go_wp2_with (first | (go_at_call 32; (with_reducible refine (strings_Trim.calls a0 (⟨#[48, 49]⟩ : ByteArray) t119 _ A3.out).mono ?_); rintro e w4 ⟨rfl, hb⟩; have n0_ := Aside0.mk (below_step (by repeat (first | (with_reducible first | exact HB.out | apply below_alloc | apply pw_below_drewN | apply below_drew1) | exact HB.out)) hb); clear HB; have HB := n0_; clear n0_; (try clear hb); (try clear hb2); (try clear hk); (try clear hi)))
    go_ret
    exact ⟨by first | rfl | (simp [errW_none, errW_some] <;> rfl) | (simp [*, errW_none, errW_some] <;> rfl), by repeat (first | (with_reducible first | exact HB.out | apply below_alloc | apply pw_below_drewN | apply below_drew1) | exact HB.out)⟩
  · rw [if_neg c2] at H
    have c2b0 : decide ((a0.size : Int) ≤ 200) = false := decide_eq_false c2
    have c2b1 : decide (a0.size ≤ 200) = false := decide_eq_false (by omega)
    clear c2
    obtain rfl := Option.some.inj H
    go_enter Tryd.func20, Tryd.ntmps20
    go_wp2
    go_ret
    exact ⟨by first | rfl | (simp [errW_none, errW_some] <;> rfl) | (simp [*, errW_none, errW_some] <;> rfl), by repeat (first | (with_reducible first | exact HB.out | apply below_alloc | apply pw_below_drewN | apply below_drew1) | exact HB.out)⟩

end Go.Proofs.YtlfheofodhfbaaaDoor.HFnExactRunsOf
