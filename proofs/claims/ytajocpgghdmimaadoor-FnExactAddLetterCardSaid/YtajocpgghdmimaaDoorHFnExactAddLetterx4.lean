/- What the machine does at each Go function that the law reaches is what the Lean function of its name says. -/
import Derived.Test.YtajocpgghdmimaaDoorHFnExactAddLetterx0
import Derived.Test.YtajocpgghdmimaaDoorHFnExactAddLetterx1
import Derived.Test.YtajocpgghdmimaaDoorHFnExactAddLetterx2
import Derived.Test.YtajocpgghdmimaaDoorHFnExactAddLetterx3
namespace Go.Proofs.YtajocpgghdmimaaDoor.HFnExactAddLetter
open Go.RowKit Go.Proofs.YtajocpgghdmimaaDoorW.PrintWords Go.Proofs.YtajocpgghdmimaaDoorW.PrintLast Go.Proofs.YtajocpgghdmimaaDoorW.PrintMore
attribute [local go_sem] max2_int min2_int max_two min_two max_three min_three max_four min_four   -- for this text's walks alone
set_option linter.unusedVariables false
set_option linter.unusedSimpArgs false

/-! ### laws_FnExactAddLetter: function 9 -/
mutual
def laws_FnExactAddLetter.j0 : Nat → ByteArray → Bool → Bool → Bool → List ByteArray → List ByteArray → List ByteArray → List ByteArray → Option (Bool)
  | 0, _, _, _, _, _, _, _, _ => none
  | k + 1, x1, x7, x10, x47, x180000, x189000, x193000, x198000 => if x47 = true then (some false) else ((laws_toTable.f k x180000).bind fun t199 => ((laws_eqTable.f k x193000 t199).bind fun t202 => (if t202 = true then ((laws_markTable.f k x193000 1).bind fun bt203 => (if bt203.1 < 0 then (laws_FnExactAddLetter.j1 k x1 x7 true x180000 x189000 x198000) else ((laws_eqTable.f k x198000 x189000).bind fun t205 => (if t205 = true then (laws_FnExactAddLetter.j1 k x1 x7 (x10 != x7) x180000 x189000 x198000) else (laws_FnExactAddLetter.j1 k x1 x7 true x180000 x189000 x198000))))) else (some false))))
def laws_FnExactAddLetter.j1 : Nat → ByteArray → Bool → Bool → List ByteArray → List ByteArray → List ByteArray → Option (Bool)
  | 0, _, _, _, _, _, _ => none
  | k + 1, x1, x7, x68, x180000, x189000, x198000 => if x68 = true then (some false) else ((laws_markTable.f k x198000 1).bind fun bt206 => ((laws_heldTable.f k bt206.2 1).bind fun t208 => (if t208 < 0 then (some false) else (if t208 = bt206.1 then ((laws_toTable.f k x180000).bind fun t209 => ((impl_AddLetter.f k t209 x1).bind fun bt212 => ((laws_eqTable.f k bt212.1 x189000).bind fun t217 => (if t217 = true then (laws_FnExactAddLetter.j2 k bt206.1 (bt212.2 != x7) bt206.2) else (laws_FnExactAddLetter.j2 k bt206.1 true bt206.2))))) else (some false)))))
def laws_FnExactAddLetter.j2 : Nat → Int → Bool → List ByteArray → Option (Bool)
  | 0, _, _, _ => none
  | k + 1, x12, x95, x198000 => if x95 = true then (some false) else ((laws_heldTable.f k x198000 1).bind fun t218 => (if t218 < 0 then (some false) else (if t218 = x12 then (some true) else (some false))))
end
def laws_FnExactAddLetter.f (k : Nat) (l0_0 : List ByteArray) (a1 : ByteArray) : Option (Bool) := if (a1.size : Int) > 1048576 then (some true) else ((laws_szTable.f k l0_0 1048576).bind fun t180 => (if t180 < 0 then (some true) else ((laws_toTable.f k l0_0).bind fun t181 => ((spec_AddLetter.f k t181 a1).bind fun bt184 => ((laws_toTable.f k l0_0).bind fun t189 => ((impl_AddLetter.f k t189 a1).bind fun bt193 => ((laws_eqTable.f k bt193.1 bt184.1).bind fun t198 => (if t198 = true then (laws_FnExactAddLetter.j0 k a1 bt184.2 bt193.2 (bt193.2 != bt184.2) l0_0 bt184.1 t189 bt193.1) else (laws_FnExactAddLetter.j0 k a1 bt184.2 bt193.2 true l0_0 bt184.1 t189 bt193.1)))))))))
theorem laws_FnExactAddLetter.mono_l : ∀ k, (∀ y0 y1 y2 y3 y4 y5 y6 y7, LeO (laws_FnExactAddLetter.j0 k y0 y1 y2 y3 y4 y5 y6 y7) (laws_FnExactAddLetter.j0 (k + 1) y0 y1 y2 y3 y4 y5 y6 y7)) ∧ (∀ y0 y1 y2 y3 y4 y5, LeO (laws_FnExactAddLetter.j1 k y0 y1 y2 y3 y4 y5) (laws_FnExactAddLetter.j1 (k + 1) y0 y1 y2 y3 y4 y5)) ∧ (∀ y0 y1 y2, LeO (laws_FnExactAddLetter.j2 k y0 y1 y2) (laws_FnExactAddLetter.j2 (k + 1) y0 y1 y2))
  | 0 => ⟨fun _ _ _ _ _ _ _ _ r h => by simp [laws_FnExactAddLetter.j0] at h, fun _ _ _ _ _ _ r h => by simp [laws_FnExactAddLetter.j1] at h, fun _ _ _ r h => by simp [laws_FnExactAddLetter.j2] at h⟩
  | k + 1 => by
    obtain ⟨ih0, ih1, ih2⟩ := laws_FnExactAddLetter.mono_l k
    refine ⟨?_, ?_, ?_⟩
    · intro y0 y1 y2 y3 y4 y5 y6 y7
      unfold laws_FnExactAddLetter.j0
      repeat' first
      | (with_reducible exact ih0 _ _ _ _ _ _ _ _)
      | (with_reducible exact ih1 _ _ _ _ _ _)
      | (with_reducible exact ih2 _ _ _)
      | (with_reducible exact impl_AddLetter.mono _ _ _)
      | (with_reducible exact laws_eqTable.mono _ _ _)
      | (with_reducible exact laws_heldTable.mono _ _ _)
      | (with_reducible exact laws_markTable.mono _ _ _)
      | (with_reducible exact laws_szTable.mono _ _ _)
      | (with_reducible exact laws_toTable.mono _ _)
      | (with_reducible exact spec_AddLetter.mono _ _ _)
      | (with_reducible exact LeO.refl _)
      | (with_reducible exact LeO.none _)
      | (with_reducible refine LeO.ite ?_ ?_)
      | (with_reducible refine LeO.bind ?_ (fun _ => ?_))
      | exact ih0 _ _ _ _ _ _ _ _
      | exact ih1 _ _ _ _ _ _
      | exact ih2 _ _ _
      | exact impl_AddLetter.mono _ _ _
      | exact laws_eqTable.mono _ _ _
      | exact laws_heldTable.mono _ _ _
      | exact laws_markTable.mono _ _ _
      | exact laws_szTable.mono _ _ _
      | exact laws_toTable.mono _ _
      | exact spec_AddLetter.mono _ _ _
      | exact LeO.none _
      | refine LeO.ite ?_ ?_
      | refine LeO.bind ?_ (fun _ => ?_)
    · intro y0 y1 y2 y3 y4 y5
      unfold laws_FnExactAddLetter.j1
      repeat' first
      | (with_reducible exact ih0 _ _ _ _ _ _ _ _)
      | (with_reducible exact ih1 _ _ _ _ _ _)
      | (with_reducible exact ih2 _ _ _)
      | (with_reducible exact impl_AddLetter.mono _ _ _)
      | (with_reducible exact laws_eqTable.mono _ _ _)
      | (with_reducible exact laws_heldTable.mono _ _ _)
      | (with_reducible exact laws_markTable.mono _ _ _)
      | (with_reducible exact laws_szTable.mono _ _ _)
      | (with_reducible exact laws_toTable.mono _ _)
      | (with_reducible exact spec_AddLetter.mono _ _ _)
      | (with_reducible exact LeO.refl _)
      | (with_reducible exact LeO.none _)
      | (with_reducible refine LeO.ite ?_ ?_)
      | (with_reducible refine LeO.bind ?_ (fun _ => ?_))
      | exact ih0 _ _ _ _ _ _ _ _
      | exact ih1 _ _ _ _ _ _
      | exact ih2 _ _ _
      | exact impl_AddLetter.mono _ _ _
      | exact laws_eqTable.mono _ _ _
      | exact laws_heldTable.mono _ _ _
      | exact laws_markTable.mono _ _ _
      | exact laws_szTable.mono _ _ _
      | exact laws_toTable.mono _ _
      | exact spec_AddLetter.mono _ _ _
      | exact LeO.none _
      | refine LeO.ite ?_ ?_
      | refine LeO.bind ?_ (fun _ => ?_)
    · intro y0 y1 y2
      unfold laws_FnExactAddLetter.j2
      repeat' first
      | (with_reducible exact ih0 _ _ _ _ _ _ _ _)
      | (with_reducible exact ih1 _ _ _ _ _ _)
      | (with_reducible exact ih2 _ _ _)
      | (with_reducible exact impl_AddLetter.mono _ _ _)
      | (with_reducible exact laws_eqTable.mono _ _ _)
      | (with_reducible exact laws_heldTable.mono _ _ _)
      | (with_reducible exact laws_markTable.mono _ _ _)
      | (with_reducible exact laws_szTable.mono _ _ _)
      | (with_reducible exact laws_toTable.mono _ _)
      | (with_reducible exact spec_AddLetter.mono _ _ _)
      | (with_reducible exact LeO.refl _)
      | (with_reducible exact LeO.none _)
      | (with_reducible refine LeO.ite ?_ ?_)
      | (with_reducible refine LeO.bind ?_ (fun _ => ?_))
      | exact ih0 _ _ _ _ _ _ _ _
      | exact ih1 _ _ _ _ _ _
      | exact ih2 _ _ _
      | exact impl_AddLetter.mono _ _ _
      | exact laws_eqTable.mono _ _ _
      | exact laws_heldTable.mono _ _ _
      | exact laws_markTable.mono _ _ _
      | exact laws_szTable.mono _ _ _
      | exact laws_toTable.mono _ _
      | exact spec_AddLetter.mono _ _ _
      | exact LeO.none _
      | refine LeO.ite ?_ ?_
      | refine LeO.bind ?_ (fun _ => ?_)
theorem laws_FnExactAddLetter.mono : ∀ a0 a1 k, LeO (laws_FnExactAddLetter.f k a0 a1) (laws_FnExactAddLetter.f (k + 1) a0 a1) := by
  intro a0 a1 k
  obtain ⟨ih0, ih1, ih2⟩ := laws_FnExactAddLetter.mono_l k
  unfold laws_FnExactAddLetter.f
  repeat' first
      | (with_reducible exact ih0 _ _ _ _ _ _ _ _)
      | (with_reducible exact ih1 _ _ _ _ _ _)
      | (with_reducible exact ih2 _ _ _)
      | (with_reducible exact impl_AddLetter.mono _ _ _)
      | (with_reducible exact laws_eqTable.mono _ _ _)
      | (with_reducible exact laws_heldTable.mono _ _ _)
      | (with_reducible exact laws_markTable.mono _ _ _)
      | (with_reducible exact laws_szTable.mono _ _ _)
      | (with_reducible exact laws_toTable.mono _ _)
      | (with_reducible exact spec_AddLetter.mono _ _ _)
      | (with_reducible exact LeO.refl _)
      | (with_reducible exact LeO.none _)
      | (with_reducible refine LeO.ite ?_ ?_)
      | (with_reducible refine LeO.bind ?_ (fun _ => ?_))
      | exact ih0 _ _ _ _ _ _ _ _
      | exact ih1 _ _ _ _ _ _
      | exact ih2 _ _ _
      | exact impl_AddLetter.mono _ _ _
      | exact laws_eqTable.mono _ _ _
      | exact laws_heldTable.mono _ _ _
      | exact laws_markTable.mono _ _ _
      | exact laws_szTable.mono _ _ _
      | exact laws_toTable.mono _ _
      | exact spec_AddLetter.mono _ _ _
      | exact LeO.none _
      | refine LeO.ite ?_ ?_
      | refine LeO.bind ?_ (fun _ => ?_)
set_option maxHeartbeats 8000000 in
set_option maxRecDepth 100000 in
theorem laws_FnExactAddLetter.calls (k : Nat) (A0_0 : Option Addr) (c0_0 : Nat) (l0_0 : List ByteArray) (a1 : ByteArray) (r : Bool) (w : World) (hr0_0 : Kd.C Kd.string w A0_0 l0_0.length l0_0) (hc0_0 : l0_0.length ≤ c0_0) (h : laws_FnExactAddLetter.f k l0_0 a1 = some r) :
    Calls Tryd.prog 9 #[.agg #[.slice A0_0 l0_0.length c0_0], .string a1] w fun e w' => e = .returned (.bool r) ∧ Below w.heap.size w w' := by
  have hu24 := Tryd.underlying24
  have hu27 := Tryd.underlying27
  have HR0_0 := Aside0.mk hr0_0
  have HC0_0 := Aside0.mk hc0_0
  clear hr0_0 hc0_0
  have HB := Aside0.mk (Below.refl w.heap.size w)
  have H : (if (a1.size : Int) > 1048576 then (some true) else ((laws_szTable.f k l0_0 1048576).bind fun t180 => (if t180 < 0 then (some true) else ((laws_toTable.f k l0_0).bind fun t181 => ((spec_AddLetter.f k t181 a1).bind fun bt184 => ((laws_toTable.f k l0_0).bind fun t189 => ((impl_AddLetter.f k t189 a1).bind fun bt193 => ((laws_eqTable.f k bt193.1 bt184.1).bind fun t198 => (if t198 = true then (laws_FnExactAddLetter.j0 k a1 bt184.2 bt193.2 (bt193.2 != bt184.2) l0_0 bt184.1 t189 bt193.1) else (laws_FnExactAddLetter.j0 k a1 bt184.2 bt193.2 true l0_0 bt184.1 t189 bt193.1)))))))))) = some r := h
  clear h
  by_cases c3 : (a1.size : Int) > 1048576
  · rw [if_pos c3] at H
    have c3b0 : decide (1048576 < (a1.size : Int)) = true := decide_eq_true c3
    have c3b1 : decide (1048576 < a1.size) = true := decide_eq_true (by omega)
    clear c3
    obtain rfl := Option.some.inj H
    go_enter Tryd.func9, Tryd.ntmps9
    go_wp2_with (first | ((with_reducible refine gate_dst (N := 2) rfl ?_); refine box_event ?hg (N := 2) ?hd (cs := #[.slice A0_0 l0_0.length c0_0]) (t := 24) ?hr ?_; (case hd => rfl); (case hg => rfl); (case hr => first | (go_simp; done) | (go_simp; rfl)); intro gb179 hg w4 hbox hb; have n0_ := Aside0.mk (below_step (by repeat (first | (with_reducible first | exact HB.out | apply below_alloc | apply pw_below_drewN | apply below_drew1) | exact HB.out)) hb); have n1_ := Aside0.mk (hbox); have n2_ := Aside0.mk ((by rw [hg]; exact (below_size (by repeat (first | (with_reducible first | exact HB.out | apply below_alloc | apply pw_below_drewN | apply below_drew1) | exact HB.out))) : w.heap.size ≤ gb179)); have n3_ := Aside0.mk ((by rw [hg]; exact (below_size (by repeat (first | (with_reducible first | exact HB.out | apply below_alloc | apply pw_below_drewN | apply below_drew1) | exact HB.out))) : w.heap.size ≤ gb179)); clear HB; have HB := n0_; have BK179 := n1_; have GW179 := n2_; have GE179 := n3_; clear n0_ n1_ n2_ n3_; clear hb hbox hg))
    go_ret
    exact ⟨by first | rfl | (simp [errW_none, errW_some] <;> rfl) | (simp [*, errW_none, errW_some] <;> rfl), by repeat (first | (with_reducible first | exact HB.out | apply below_alloc | apply pw_below_drewN | apply below_drew1 | refine below_set ?_ GE179.out) | exact HB.out)⟩
  · rw [if_neg c3] at H
    have c3b0 : decide (1048576 < (a1.size : Int)) = false := decide_eq_false c3
    have c3b1 : decide (1048576 < a1.size) = false := decide_eq_false (by omega)
    clear c3
    replace H := Option.bind_eq_some_iff.mp H
    obtain ⟨t180, A50, H⟩ := H
    replace H : (if t180 < 0 then (some true) else ((laws_toTable.f k l0_0).bind fun t181 => ((spec_AddLetter.f k t181 a1).bind fun bt184 => ((laws_toTable.f k l0_0).bind fun t189 => ((impl_AddLetter.f k t189 a1).bind fun bt193 => ((laws_eqTable.f k bt193.1 bt184.1).bind fun t198 => (if t198 = true then (laws_FnExactAddLetter.j0 k a1 bt184.2 bt193.2 (bt193.2 != bt184.2) l0_0 bt184.1 t189 bt193.1) else (laws_FnExactAddLetter.j0 k a1 bt184.2 bt193.2 true l0_0 bt184.1 t189 bt193.1)))))))) = some r := H
    have A5 := Aside0.mk A50
    clear A50
    by_cases c6 : t180 < 0
    · rw [if_pos c6] at H
      have c6b0 : decide (t180 < 0) = true := decide_eq_true c6
      clear c6
      obtain rfl := Option.some.inj H
      go_enter Tryd.func9, Tryd.ntmps9
      go_wp2_with (first | ((with_reducible refine gate_dst (N := 2) rfl ?_); refine box_event ?hg (N := 2) ?hd (cs := #[.slice A0_0 l0_0.length c0_0]) (t := 24) ?hr ?_; (case hd => rfl); (case hg => rfl); (case hr => first | (go_simp; done) | (go_simp; rfl)); intro gb179 hg w7 hbox hb; have n0_ := Aside0.mk (below_step (by repeat (first | (with_reducible first | exact HB.out | apply below_alloc | apply pw_below_drewN | apply below_drew1) | exact HB.out)) hb); have n1_ := Aside0.mk (hbox); have n2_ := Aside0.mk ((by rw [hg]; exact (below_size (by repeat (first | (with_reducible first | exact HB.out | apply below_alloc | apply pw_below_drewN | apply below_drew1) | exact HB.out))) : w.heap.size ≤ gb179)); have n3_ := Aside0.mk ((by rw [hg]; exact (below_size (by repeat (first | (with_reducible first | exact HB.out | apply below_alloc | apply pw_below_drewN | apply below_drew1) | exact HB.out))) : w.heap.size ≤ gb179)); clear HB; have HB := n0_; have BK179 := n1_; have GW179 := n2_; have GE179 := n3_; clear n0_ n1_ n2_ n3_; clear hb hbox hg; have hcz8_0 : w7.cell? ⟨gb179, 0, none⟩ = some (.slice A0_0 l0_0.length c0_0) := (blk_cell BK179.out 0).trans rfl; have hfz8_0 := blk_frozen BK179.out 0) | ((with_reducible refine gate_callee (f := 15) rfl ?_); refine goesL_ (some 21) rfl rfl Tryd.func15 (by kernel_rfl) rfl #[.agg #[.slice A0_0 l0_0.length c0_0], .int .i64 1048576] rfl (by (try simp only [List.map_toArray, List.map_cons, List.map_nil]); first | done | rfl | (simp only [List.length_drop, List.length_take]; rfl)) ?_; (with_reducible refine (laws_szTable.calls k _ _ l0_0 1048576 t180 _ ?side1 ?side2 A5.out).mono ?_); (case side1 => repeat (first | exact (Kd.C_below HR0_0.out HB.out) | (with_reducible refine Kd.C_alloc ?_ _) | (with_reducible refine Kd.C_drewN ?_ _) | (with_reducible refine Kd.C_drew ?_))); (case side2 => exact HC0_0.out); rintro e w9 ⟨rfl, hb⟩; refine ⟨_, rfl, ?_⟩; have n0_ := Aside0.mk (blk_below (g := gb179) (o := .cells #[.slice A0_0 l0_0.length c0_0] 24 (0, 0)) (by (with_reducible repeat (first | refine blk_drewN ?_ _ | refine blk_drew ?_ | refine blk_alloc ?_ _)); exact BK179.out) hb); have n1_ := Aside0.mk (below_step (by repeat (first | (with_reducible first | exact HB.out | apply below_alloc | apply pw_below_drewN | apply below_drew1 | refine below_set ?_ GE179.out) | exact HB.out)) hb); clear BK179; clear HB; have BK179 := n0_; have HB := n1_; clear n0_ n1_; (try clear hb); (try clear hb2); (try clear hk); (try clear hi)))
      go_ret
      exact ⟨by first | rfl | (simp [errW_none, errW_some] <;> rfl) | (simp [*, errW_none, errW_some] <;> rfl), by repeat (first | (with_reducible first | exact HB.out | apply below_alloc | apply pw_below_drewN | apply below_drew1 | refine below_set ?_ GE179.out) | exact HB.out)⟩
    · rw [if_neg c6] at H
      have c6b0 : decide (t180 < 0) = false := decide_eq_false c6
      clear c6
      replace H := Option.bind_eq_some_iff.mp H
      obtain ⟨t181, A100, H⟩ := H
      replace H : ((spec_AddLetter.f k t181 a1).bind fun bt184 => ((laws_toTable.f k l0_0).bind fun t189 => ((impl_AddLetter.f k t189 a1).bind fun bt193 => ((laws_eqTable.f k bt193.1 bt184.1).bind fun t198 => (if t198 = true then (laws_FnExactAddLetter.j0 k a1 bt184.2 bt193.2 (bt193.2 != bt184.2) l0_0 bt184.1 t189 bt193.1) else (laws_FnExactAddLetter.j0 k a1 bt184.2 bt193.2 true l0_0 bt184.1 t189 bt193.1)))))) = some r := H
      have A10 := Aside0.mk A100
      clear A100
      replace H := Option.bind_eq_some_iff.mp H
      obtain ⟨⟨t184, t187⟩, A110, H⟩ := H
      replace H : ((laws_toTable.f k l0_0).bind fun t189 => ((impl_AddLetter.f k t189 a1).bind fun bt193 => ((laws_eqTable.f k bt193.1 t184).bind fun t198 => (if t198 = true then (laws_FnExactAddLetter.j0 k a1 t187 bt193.2 (bt193.2 != t187) l0_0 t184 t189 bt193.1) else (laws_FnExactAddLetter.j0 k a1 t187 bt193.2 true l0_0 t184 t189 bt193.1))))) = some r := H
      have A11 := Aside0.mk A110
      clear A110
      replace H := Option.bind_eq_some_iff.mp H
      obtain ⟨t189, A120, H⟩ := H
      replace H : ((impl_AddLetter.f k t189 a1).bind fun bt193 => ((laws_eqTable.f k bt193.1 t184).bind fun t198 => (if t198 = true then (laws_FnExactAddLetter.j0 k a1 t187 bt193.2 (bt193.2 != t187) l0_0 t184 t189 bt193.1) else (laws_FnExactAddLetter.j0 k a1 t187 bt193.2 true l0_0 t184 t189 bt193.1)))) = some r := H
      have A12 := Aside0.mk A120
      clear A120
      replace H := Option.bind_eq_some_iff.mp H
      obtain ⟨⟨t193, t196⟩, A130, H⟩ := H
      replace H : ((laws_eqTable.f k t193 t184).bind fun t198 => (if t198 = true then (laws_FnExactAddLetter.j0 k a1 t187 t196 (t196 != t187) l0_0 t184 t189 t193) else (laws_FnExactAddLetter.j0 k a1 t187 t196 true l0_0 t184 t189 t193))) = some r := H
      have A13 := Aside0.mk A130
      clear A130
      have HC14 := Aside0.mk H
      clear H
      go_enter Tryd.func9, Tryd.ntmps9
      go_upto_region 10 with (first | ((with_reducible refine gate_dst (N := 2) rfl ?_); refine box_event ?hg (N := 2) ?hd (cs := #[.slice A0_0 l0_0.length c0_0]) (t := 24) ?hr ?_; (case hd => rfl); (case hg => rfl); (case hr => first | (go_simp; done) | (go_simp; rfl)); intro gb179 hg w15 hbox hb; have n0_ := Aside0.mk (below_step (by repeat (first | (with_reducible first | exact HB.out | apply below_alloc | apply pw_below_drewN | apply below_drew1) | exact HB.out)) hb); have n1_ := Aside0.mk (hbox); have n2_ := Aside0.mk ((by rw [hg]; exact (below_size (by repeat (first | (with_reducible first | exact HB.out | apply below_alloc | apply pw_below_drewN | apply below_drew1) | exact HB.out))) : w.heap.size ≤ gb179)); have n3_ := Aside0.mk ((by rw [hg]; exact (below_size (by repeat (first | (with_reducible first | exact HB.out | apply below_alloc | apply pw_below_drewN | apply below_drew1) | exact HB.out))) : w.heap.size ≤ gb179)); clear HB; have HB := n0_; have BK179 := n1_; have GW179 := n2_; have GE179 := n3_; clear n0_ n1_ n2_ n3_; clear hb hbox hg; have hcz16_0 : w15.cell? ⟨gb179, 0, none⟩ = some (.slice A0_0 l0_0.length c0_0) := (blk_cell BK179.out 0).trans rfl; have hfz16_0 := blk_frozen BK179.out 0) | ((with_reducible refine gate_callee (f := 15) rfl ?_); refine goesL_ (some 21) rfl rfl Tryd.func15 (by kernel_rfl) rfl #[.agg #[.slice A0_0 l0_0.length c0_0], .int .i64 1048576] rfl (by (try simp only [List.map_toArray, List.map_cons, List.map_nil]); first | done | rfl | (simp only [List.length_drop, List.length_take]; rfl)) ?_; (with_reducible refine (laws_szTable.calls k _ _ l0_0 1048576 t180 _ ?side1 ?side2 A5.out).mono ?_); (case side1 => repeat (first | exact (Kd.C_below HR0_0.out HB.out) | (with_reducible refine Kd.C_alloc ?_ _) | (with_reducible refine Kd.C_drewN ?_ _) | (with_reducible refine Kd.C_drew ?_))); (case side2 => exact HC0_0.out); rintro e w17 ⟨rfl, hb⟩; refine ⟨_, rfl, ?_⟩; have n0_ := Aside0.mk (blk_below (g := gb179) (o := .cells #[.slice A0_0 l0_0.length c0_0] 24 (0, 0)) (by (with_reducible repeat (first | refine blk_drewN ?_ _ | refine blk_drew ?_ | refine blk_alloc ?_ _)); exact BK179.out) hb); have n1_ := Aside0.mk (below_step (by repeat (first | (with_reducible first | exact HB.out | apply below_alloc | apply pw_below_drewN | apply below_drew1 | refine below_set ?_ GE179.out) | exact HB.out)) hb); clear BK179; clear HB; have BK179 := n0_; have HB := n1_; clear n0_ n1_; (try clear hb); (try clear hb2); (try clear hk); (try clear hi); have hcz18_0 : w17.cell? ⟨gb179, 0, none⟩ = some (.slice A0_0 l0_0.length c0_0) := (blk_cell BK179.out 0).trans rfl; have hfz18_0 := blk_frozen BK179.out 0) | ((with_reducible refine gate_callee (f := 17) rfl ?_); refine goesL_ (some 26) rfl rfl Tryd.func17 (by kernel_rfl) rfl #[.agg #[.slice A0_0 l0_0.length c0_0]] rfl (by (try simp only [List.map_toArray, List.map_cons, List.map_nil]); first | done | rfl | (simp only [List.length_drop, List.length_take]; rfl)) ?_; (with_reducible refine (laws_toTable.calls k _ _ l0_0 t181 _ ?side1 ?side2 A10.out).mono ?_); (case side1 => repeat (first | exact (Kd.C_below HR0_0.out HB.out) | (with_reducible refine Kd.C_alloc ?_ _) | (with_reducible refine Kd.C_drewN ?_ _) | (with_reducible refine Kd.C_drew ?_))); (case side2 => exact HC0_0.out); rintro e w19 ⟨v182, rfl, ho0, hb⟩; refine ⟨_, rfl, ?_⟩; have n0_ := Aside0.mk (Kd.R_lower ho0 (below_size (by repeat (first | (with_reducible first | exact HB.out | apply below_alloc | apply pw_below_drewN | apply below_drew1 | refine below_set ?_ GE179.out) | exact HB.out)))); have n1_ := Aside0.mk (blk_below (g := gb179) (o := .cells #[.slice A0_0 l0_0.length c0_0] 24 (0, 0)) (by (with_reducible repeat (first | refine blk_drewN ?_ _ | refine blk_drew ?_ | refine blk_alloc ?_ _)); exact BK179.out) hb); have n2_ := Aside0.mk (below_step (by repeat (first | (with_reducible first | exact HB.out | apply below_alloc | apply pw_below_drewN | apply below_drew1 | refine below_set ?_ GE179.out) | exact HB.out)) hb); clear BK179; clear HB; have HO183 := n0_; have BK179 := n1_; have HB := n2_; clear n0_ n1_ n2_; (try clear hb); (try clear hb2); (try clear hk); (try clear hi); (try clear ho0); obtain ⟨Ao20, co20, eo20⟩ := Kd.R_slice HO183.out; subst eo20) | ((with_reducible refine gate_callee (f := 30) rfl ?_); refine goesL_ (some 28) rfl rfl Tryd.func30 (by kernel_rfl) rfl #[.agg #[.slice Ao20 t181.length co20], .string a1] rfl (by (try simp only [List.map_toArray, List.map_cons, List.map_nil]); first | done | rfl | (simp only [List.length_drop, List.length_take]; rfl)) ?_; (with_reducible refine (spec_AddLetter.calls k _ _ t181 a1 t184 t187 _ ?side1 ?side2 A11.out).mono ?_); (case side1 => repeat (first | exact (Kd.R_reads' HO183.out).2.2 | (with_reducible refine Kd.C_alloc ?_ _) | (with_reducible refine Kd.C_drewN ?_ _) | (with_reducible refine Kd.C_drew ?_))); (case side2 => exact (Kd.R_reads' HO183.out).2.1); rintro e w21 ⟨v185, rfl, ho0, hb⟩; refine ⟨_, rfl, ?_⟩; have n0_ := Aside0.mk (Kd.R_elder' (by (with_reducible repeat (first | apply Kd.R_alloc | apply Kd.R_drewN | apply Kd.R_drew)); exact HO183.out) (Kd.R_base ho0) hb); have n1_ := Aside0.mk (Kd.R_lower (Kd.R_new' ho0 (Kd.R_lt (by (with_reducible repeat (first | apply Kd.R_alloc | apply Kd.R_drewN | apply Kd.R_drew)); exact HO183.out))) (below_size (by repeat (first | (with_reducible first | exact HB.out | apply below_alloc | apply pw_below_drewN | apply below_drew1 | refine below_set ?_ GE179.out) | exact HB.out)))); have n2_ := Aside0.mk (blk_below (g := gb179) (o := .cells #[.slice A0_0 l0_0.length c0_0] 24 (0, 0)) (by (with_reducible repeat (first | refine blk_drewN ?_ _ | refine blk_drew ?_ | refine blk_alloc ?_ _)); exact BK179.out) hb); have n3_ := Aside0.mk (below_step (by repeat (first | (with_reducible first | exact HB.out | apply below_alloc | apply pw_below_drewN | apply below_drew1 | refine below_set ?_ GE179.out) | exact HB.out)) hb); clear HO183; clear BK179; clear HB; have HO183 := n0_; have HO186 := n1_; have BK179 := n2_; have HB := n3_; clear n0_ n1_ n2_ n3_; (try clear hb); (try clear hb2); (try clear hk); (try clear hi); (try clear ho0)) | ((with_reducible refine gate_dst (N := 6) rfl ?_); refine box_event ?hg (N := 6) ?hd (cs := #[.slice none 0 0]) (t := 27) ?hr ?_; (case hd => rfl); (case hg => rfl); (case hr => first | (go_simp; done) | (go_simp; rfl)); intro gb188 hg w22 hbox hb; have n0_ := Aside0.mk (Kd.R_below (by (with_reducible repeat (first | apply Kd.R_alloc | apply Kd.R_drewN | apply Kd.R_drew)); exact HO183.out) hb); have n1_ := Aside0.mk (Kd.R_below (by (with_reducible repeat (first | apply Kd.R_alloc | apply Kd.R_drewN | apply Kd.R_drew)); exact HO186.out) hb); have n2_ := Aside0.mk (blk_below (g := gb179) (o := .cells #[.slice A0_0 l0_0.length c0_0] 24 (0, 0)) (by (with_reducible repeat (first | refine blk_drewN ?_ _ | refine blk_drew ?_ | refine blk_alloc ?_ _)); exact BK179.out) hb); have n3_ := Aside0.mk (below_step (by repeat (first | (with_reducible first | exact HB.out | apply below_alloc | apply pw_below_drewN | apply below_drew1 | refine below_set ?_ GE179.out) | exact HB.out)) hb); have n4_ := Aside0.mk (hbox); have n5_ := Aside0.mk ((by rw [hg]; exact (below_size (by repeat (first | (with_reducible first | exact HB.out | apply below_alloc | apply pw_below_drewN | apply below_drew1 | refine below_set ?_ GE179.out) | exact HB.out))) : w.heap.size ≤ gb188)); have n6_ := Aside0.mk ((by rw [hg]; exact (below_size (by repeat (first | (with_reducible first | exact HB.out | apply below_alloc | apply pw_below_drewN | apply below_drew1 | refine below_set ?_ GE179.out) | exact HB.out))) : w.heap.size ≤ gb188)); have n7_ := Aside0.mk ((by rw [hg]; exact Nat.ne_of_lt (blk_lt (g := gb179) (o := .cells #[.slice A0_0 l0_0.length c0_0] 24 (0, 0)) (by (with_reducible repeat (first | refine blk_drewN ?_ _ | refine blk_drew ?_ | refine blk_alloc ?_ _)); exact BK179.out)) : gb179 ≠ gb188)); have n8_ := Aside0.mk ((by rw [hg]; exact Nat.ne_of_gt (blk_lt (g := gb179) (o := .cells #[.slice A0_0 l0_0.length c0_0] 24 (0, 0)) (by (with_reducible repeat (first | refine blk_drewN ?_ _ | refine blk_drew ?_ | refine blk_alloc ?_ _)); exact BK179.out)) : gb188 ≠ gb179)); clear HO183; clear HO186; clear BK179; clear HB; have HO183 := n0_; have HO186 := n1_; have BK179 := n2_; have HB := n3_; have BK188 := n4_; have GW188 := n5_; have GE188 := n6_; have NB179_188 := n7_; have NB188_179 := n8_; clear n0_ n1_ n2_ n3_ n4_ n5_ n6_ n7_ n8_; clear hb hbox hg; obtain ⟨Ao23, co23, eo23⟩ := Kd.R_slice HO186.out; subst eo23; have hnb24 := NB188_179.out; have hnc24 := NB179_188.out; have hcz25_0 : w22.cell? ⟨gb188, 0, none⟩ = some (.slice none 0 0) := (blk_cell BK188.out 0).trans rfl; have hfz25_0 := blk_frozen BK188.out 0; have hcz26_0 : w22.cell? ⟨gb179, 0, none⟩ = some (.slice A0_0 l0_0.length c0_0) := (blk_cell BK179.out 0).trans rfl; have hfz26_0 := blk_frozen BK179.out 0) | ((with_reducible refine gate_callee (f := 17) rfl ?_); refine goesL_ (some 32) rfl rfl Tryd.func17 (by kernel_rfl) rfl #[.agg #[.slice A0_0 l0_0.length c0_0]] rfl (by (try simp only [List.map_toArray, List.map_cons, List.map_nil]); first | done | rfl | (simp only [List.length_drop, List.length_take]; rfl)) ?_; (with_reducible refine (laws_toTable.calls k _ _ l0_0 t189 _ ?side1 ?side2 A12.out).mono ?_); (case side1 => exact Kd.C_below HR0_0.out (by repeat (first | (with_reducible first | exact HB.out | apply below_alloc | apply pw_below_drewN | apply below_drew1 | refine below_set ?_ GE179.out | refine below_set ?_ GE188.out) | exact HB.out))); (case side2 => exact HC0_0.out); rintro e w27 ⟨v190, rfl, ho0, hb⟩; refine ⟨_, rfl, ?_⟩; have n0_ := Aside0.mk (Kd.R_elder' (by (with_reducible repeat (first | apply Kd.R_alloc | apply Kd.R_drewN | apply Kd.R_drew)); exact (Kd.R_mono (Kd.R_far (p := ⟨gb188, 0, none⟩) (Kd.R_types HO183.out BK188.out (by decide)) (fun _ hk => hk.2) (.slice Ao23 t184.length co23)) (fun _ h_ => h_.1))) (Kd.R_base ho0) hb); have n1_ := Aside0.mk (Kd.R_elder' (by (with_reducible repeat (first | apply Kd.R_alloc | apply Kd.R_drewN | apply Kd.R_drew)); exact (Kd.R_mono (Kd.R_far (p := ⟨gb188, 0, none⟩) (Kd.R_types HO186.out BK188.out (by decide)) (fun _ hk => hk.2) (.slice Ao23 t184.length co23)) (fun _ h_ => h_.1))) (Kd.R_base ho0) hb); have n2_ := Aside0.mk (Kd.R_lower (Kd.R_new' (Kd.R_new' ho0 (Kd.R_lt (by (with_reducible repeat (first | apply Kd.R_alloc | apply Kd.R_drewN | apply Kd.R_drew)); exact (Kd.R_mono (Kd.R_far (p := ⟨gb188, 0, none⟩) (Kd.R_types HO183.out BK188.out (by decide)) (fun _ hk => hk.2) (.slice Ao23 t184.length co23)) (fun _ h_ => h_.1))))) (Kd.R_lt (by (with_reducible repeat (first | apply Kd.R_alloc | apply Kd.R_drewN | apply Kd.R_drew)); exact (Kd.R_mono (Kd.R_far (p := ⟨gb188, 0, none⟩) (Kd.R_types HO186.out BK188.out (by decide)) (fun _ hk => hk.2) (.slice Ao23 t184.length co23)) (fun _ h_ => h_.1))))) (below_size (by repeat (first | (with_reducible first | exact HB.out | apply below_alloc | apply pw_below_drewN | apply below_drew1 | refine below_set ?_ GE179.out | refine below_set ?_ GE188.out) | exact HB.out)))); have n3_ := Aside0.mk (blk_below (g := gb179) (o := .cells #[.slice A0_0 l0_0.length c0_0] 24 (0, 0)) (by (with_reducible repeat (first | refine blk_drewN ?_ _ | refine blk_drew ?_ | refine blk_alloc ?_ _)); refine blk_far ?_ NB179_188.out _; (with_reducible repeat (first | refine blk_drewN ?_ _ | refine blk_drew ?_ | refine blk_alloc ?_ _)); exact BK179.out) hb); have n4_ := Aside0.mk (blk_below (g := gb188) (o := .cells #[.slice Ao23 t184.length co23] 27 (0, 0)) (by (with_reducible repeat (first | refine blk_drewN ?_ _ | refine blk_drew ?_ | refine blk_alloc ?_ _)); refine blk_put (cs := #[.slice none 0 0]) ?_ 0 _ rfl; (with_reducible repeat (first | refine blk_drewN ?_ _ | refine blk_drew ?_ | refine blk_alloc ?_ _)); exact BK188.out) hb); have n5_ := Aside0.mk (below_step (by repeat (first | (with_reducible first | exact HB.out | apply below_alloc | apply pw_below_drewN | apply below_drew1 | refine below_set ?_ GE179.out | refine below_set ?_ GE188.out) | exact HB.out)) hb); clear HO183; clear HO186; clear BK179; clear BK188; clear HB; have HO183 := n0_; have HO186 := n1_; have HO191 := n2_; have BK179 := n3_; have BK188 := n4_; have HB := n5_; clear n0_ n1_ n2_ n3_ n4_ n5_; (try clear hb); (try clear hb2); (try clear hk); (try clear hi); (try clear ho0)) | ((with_reducible refine gate_dst (N := 8) rfl ?_); refine box_event ?hg (N := 8) ?hd (cs := #[.slice none 0 0]) (t := 27) ?hr ?_; (case hd => rfl); (case hg => rfl); (case hr => first | (go_simp; done) | (go_simp; rfl)); intro gb192 hg w28 hbox hb; have n0_ := Aside0.mk (Kd.R_below (by (with_reducible repeat (first | apply Kd.R_alloc | apply Kd.R_drewN | apply Kd.R_drew)); exact HO183.out) hb); have n1_ := Aside0.mk (Kd.R_below (by (with_reducible repeat (first | apply Kd.R_alloc | apply Kd.R_drewN | apply Kd.R_drew)); exact HO186.out) hb); have n2_ := Aside0.mk (Kd.R_below (by (with_reducible repeat (first | apply Kd.R_alloc | apply Kd.R_drewN | apply Kd.R_drew)); exact HO191.out) hb); have n3_ := Aside0.mk (blk_below (g := gb179) (o := .cells #[.slice A0_0 l0_0.length c0_0] 24 (0, 0)) (by (with_reducible repeat (first | refine blk_drewN ?_ _ | refine blk_drew ?_ | refine blk_alloc ?_ _)); exact BK179.out) hb); have n4_ := Aside0.mk (blk_below (g := gb188) (o := .cells #[.slice Ao23 t184.length co23] 27 (0, 0)) (by (with_reducible repeat (first | refine blk_drewN ?_ _ | refine blk_drew ?_ | refine blk_alloc ?_ _)); exact BK188.out) hb); have n5_ := Aside0.mk (below_step (by repeat (first | (with_reducible first | exact HB.out | apply below_alloc | apply pw_below_drewN | apply below_drew1 | refine below_set ?_ GE179.out | refine below_set ?_ GE188.out) | exact HB.out)) hb); have n6_ := Aside0.mk (hbox); have n7_ := Aside0.mk ((by rw [hg]; exact (below_size (by repeat (first | (with_reducible first | exact HB.out | apply below_alloc | apply pw_below_drewN | apply below_drew1 | refine below_set ?_ GE179.out | refine below_set ?_ GE188.out) | exact HB.out))) : w.heap.size ≤ gb192)); have n8_ := Aside0.mk ((by rw [hg]; exact (below_size (by repeat (first | (with_reducible first | exact HB.out | apply below_alloc | apply pw_below_drewN | apply below_drew1 | refine below_set ?_ GE179.out | refine below_set ?_ GE188.out) | exact HB.out))) : w.heap.size ≤ gb192)); have n9_ := Aside0.mk ((by rw [hg]; exact Nat.ne_of_lt (blk_lt (g := gb179) (o := .cells #[.slice A0_0 l0_0.length c0_0] 24 (0, 0)) (by (with_reducible repeat (first | refine blk_drewN ?_ _ | refine blk_drew ?_ | refine blk_alloc ?_ _)); exact BK179.out)) : gb179 ≠ gb192)); have n10_ := Aside0.mk ((by rw [hg]; exact Nat.ne_of_gt (blk_lt (g := gb179) (o := .cells #[.slice A0_0 l0_0.length c0_0] 24 (0, 0)) (by (with_reducible repeat (first | refine blk_drewN ?_ _ | refine blk_drew ?_ | refine blk_alloc ?_ _)); exact BK179.out)) : gb192 ≠ gb179)); have n11_ := Aside0.mk ((by rw [hg]; exact Nat.ne_of_lt (blk_lt (g := gb188) (o := .cells #[.slice Ao23 t184.length co23] 27 (0, 0)) (by (with_reducible repeat (first | refine blk_drewN ?_ _ | refine blk_drew ?_ | refine blk_alloc ?_ _)); exact BK188.out)) : gb188 ≠ gb192)); have n12_ := Aside0.mk ((by rw [hg]; exact Nat.ne_of_gt (blk_lt (g := gb188) (o := .cells #[.slice Ao23 t184.length co23] 27 (0, 0)) (by (with_reducible repeat (first | refine blk_drewN ?_ _ | refine blk_drew ?_ | refine blk_alloc ?_ _)); exact BK188.out)) : gb192 ≠ gb188)); clear HO183; clear HO186; clear HO191; clear BK179; clear BK188; clear HB; have HO183 := n0_; have HO186 := n1_; have HO191 := n2_; have BK179 := n3_; have BK188 := n4_; have HB := n5_; have BK192 := n6_; have GW192 := n7_; have GE192 := n8_; have NB179_192 := n9_; have NB192_179 := n10_; have NB188_192 := n11_; have NB192_188 := n12_; clear n0_ n1_ n2_ n3_ n4_ n5_ n6_ n7_ n8_ n9_ n10_ n11_ n12_; clear hb hbox hg; obtain ⟨Ao29, co29, eo29⟩ := Kd.R_slice HO191.out; subst eo29; have hnb30 := NB192_179.out; have hnc30 := NB179_192.out; have hnb31 := NB192_188.out; have hnc31 := NB188_192.out; have hcz32_0 : w28.cell? ⟨gb192, 0, none⟩ = some (.slice none 0 0) := (blk_cell BK192.out 0).trans rfl; have hfz32_0 := blk_frozen BK192.out 0) | ((with_reducible refine gate_callee (f := 31) rfl ?_); refine goesL_ (some 36) rfl rfl Tryd.func31 (by kernel_rfl) rfl #[.agg #[.slice Ao29 t189.length co29], .string a1] rfl (by (try simp only [List.map_toArray, List.map_cons, List.map_nil]); first | done | rfl | (simp only [List.length_drop, List.length_take]; rfl)) ?_; (with_reducible refine (impl_AddLetter.calls k _ _ t189 a1 t193 t196 _ ?side1 ?side2 A13.out).mono ?_); (case side1 => refine (Kd.R_reads' (e := 9) (base := w.heap.size) (ok := fun k_ => ((True ∧ some k_ ≠ (.slice Ao20 t181.length co20 : Value).ownBlock) ∧ some k_ ≠ (.slice Ao23 t184.length co23 : Value).ownBlock)) (n := t189.length) (c := co29) ?_).2.2; exact (by (with_reducible repeat (first | apply Kd.R_alloc | apply Kd.R_drewN | apply Kd.R_drew)); exact (Kd.R_mono (Kd.R_far (p := ⟨gb192, 0, none⟩) (Kd.R_types HO191.out BK192.out (by decide)) (fun _ hk => hk.2) (.slice Ao29 t189.length co29)) (fun _ h_ => h_.1)))); (case side2 => exact (Kd.R_reads' HO191.out).2.1); rintro e w33 ⟨v194, rfl, ho0, hb⟩; refine ⟨_, rfl, ?_⟩; have n0_ := Aside0.mk (Kd.R_elder' (by (with_reducible repeat (first | apply Kd.R_alloc | apply Kd.R_drewN | apply Kd.R_drew)); exact (Kd.R_mono (Kd.R_far (p := ⟨gb192, 0, none⟩) (Kd.R_types HO183.out BK192.out (by decide)) (fun _ hk => hk.2) (.slice Ao29 t189.length co29)) (fun _ h_ => h_.1))) (Kd.R_base ho0) hb); have n1_ := Aside0.mk (Kd.R_elder' (by (with_reducible repeat (first | apply Kd.R_alloc | apply Kd.R_drewN | apply Kd.R_drew)); exact (Kd.R_mono (Kd.R_far (p := ⟨gb192, 0, none⟩) (Kd.R_types HO186.out BK192.out (by decide)) (fun _ hk => hk.2) (.slice Ao29 t189.length co29)) (fun _ h_ => h_.1))) (Kd.R_base ho0) hb); have n2_ := Aside0.mk (Kd.R_elder' (by (with_reducible repeat (first | apply Kd.R_alloc | apply Kd.R_drewN | apply Kd.R_drew)); exact (Kd.R_mono (Kd.R_far (p := ⟨gb192, 0, none⟩) (Kd.R_types HO191.out BK192.out (by decide)) (fun _ hk => hk.2) (.slice Ao29 t189.length co29)) (fun _ h_ => h_.1))) (Kd.R_base ho0) hb); have n3_ := Aside0.mk (Kd.R_lower (Kd.R_new' (Kd.R_new' (Kd.R_new' ho0 (Kd.R_lt (by (with_reducible repeat (first | apply Kd.R_alloc | apply Kd.R_drewN | apply Kd.R_drew)); exact (Kd.R_mono (Kd.R_far (p := ⟨gb192, 0, none⟩) (Kd.R_types HO183.out BK192.out (by decide)) (fun _ hk => hk.2) (.slice Ao29 t189.length co29)) (fun _ h_ => h_.1))))) (Kd.R_lt (by (with_reducible repeat (first | apply Kd.R_alloc | apply Kd.R_drewN | apply Kd.R_drew)); exact (Kd.R_mono (Kd.R_far (p := ⟨gb192, 0, none⟩) (Kd.R_types HO186.out BK192.out (by decide)) (fun _ hk => hk.2) (.slice Ao29 t189.length co29)) (fun _ h_ => h_.1))))) (Kd.R_lt (by (with_reducible repeat (first | apply Kd.R_alloc | apply Kd.R_drewN | apply Kd.R_drew)); exact (Kd.R_mono (Kd.R_far (p := ⟨gb192, 0, none⟩) (Kd.R_types HO191.out BK192.out (by decide)) (fun _ hk => hk.2) (.slice Ao29 t189.length co29)) (fun _ h_ => h_.1))))) (below_size (by repeat (first | (with_reducible first | exact HB.out | apply below_alloc | apply pw_below_drewN | apply below_drew1 | refine below_set ?_ GE179.out | refine below_set ?_ GE188.out | refine below_set ?_ GE192.out) | exact HB.out)))); have n4_ := Aside0.mk (blk_below (g := gb179) (o := .cells #[.slice A0_0 l0_0.length c0_0] 24 (0, 0)) (by (with_reducible repeat (first | refine blk_drewN ?_ _ | refine blk_drew ?_ | refine blk_alloc ?_ _)); refine blk_far ?_ NB179_192.out _; (with_reducible repeat (first | refine blk_drewN ?_ _ | refine blk_drew ?_ | refine blk_alloc ?_ _)); exact BK179.out) hb); have n5_ := Aside0.mk (blk_below (g := gb188) (o := .cells #[.slice Ao23 t184.length co23] 27 (0, 0)) (by (with_reducible repeat (first | refine blk_drewN ?_ _ | refine blk_drew ?_ | refine blk_alloc ?_ _)); refine blk_far ?_ NB188_192.out _; (with_reducible repeat (first | refine blk_drewN ?_ _ | refine blk_drew ?_ | refine blk_alloc ?_ _)); exact BK188.out) hb); have n6_ := Aside0.mk (blk_below (g := gb192) (o := .cells #[.slice Ao29 t189.length co29] 27 (0, 0)) (by (with_reducible repeat (first | refine blk_drewN ?_ _ | refine blk_drew ?_ | refine blk_alloc ?_ _)); refine blk_put (cs := #[.slice none 0 0]) ?_ 0 _ rfl; (with_reducible repeat (first | refine blk_drewN ?_ _ | refine blk_drew ?_ | refine blk_alloc ?_ _)); exact BK192.out) hb); have n7_ := Aside0.mk (below_step (by repeat (first | (with_reducible first | exact HB.out | apply below_alloc | apply pw_below_drewN | apply below_drew1 | refine below_set ?_ GE179.out | refine below_set ?_ GE188.out | refine below_set ?_ GE192.out) | exact HB.out)) hb); clear HO183; clear HO186; clear HO191; clear BK179; clear BK188; clear BK192; clear HB; have HO183 := n0_; have HO186 := n1_; have HO191 := n2_; have HO195 := n3_; have BK179 := n4_; have BK188 := n5_; have BK192 := n6_; have HB := n7_; clear n0_ n1_ n2_ n3_ n4_ n5_ n6_ n7_; (try clear hb); (try clear hb2); (try clear hk); (try clear hi); (try clear ho0)) | ((with_reducible refine gate_dst (N := 9) rfl ?_); refine box_event ?hg (N := 9) ?hd (cs := #[.slice none 0 0]) (t := 27) ?hr ?_; (case hd => rfl); (case hg => rfl); (case hr => first | (go_simp; done) | (go_simp; rfl)); intro gb197 hg w34 hbox hb; have n0_ := Aside0.mk (Kd.R_below (by (with_reducible repeat (first | apply Kd.R_alloc | apply Kd.R_drewN | apply Kd.R_drew)); exact HO183.out) hb); have n1_ := Aside0.mk (Kd.R_below (by (with_reducible repeat (first | apply Kd.R_alloc | apply Kd.R_drewN | apply Kd.R_drew)); exact HO186.out) hb); have n2_ := Aside0.mk (Kd.R_below (by (with_reducible repeat (first | apply Kd.R_alloc | apply Kd.R_drewN | apply Kd.R_drew)); exact HO191.out) hb); have n3_ := Aside0.mk (Kd.R_below (by (with_reducible repeat (first | apply Kd.R_alloc | apply Kd.R_drewN | apply Kd.R_drew)); exact HO195.out) hb); have n4_ := Aside0.mk (blk_below (g := gb179) (o := .cells #[.slice A0_0 l0_0.length c0_0] 24 (0, 0)) (by (with_reducible repeat (first | refine blk_drewN ?_ _ | refine blk_drew ?_ | refine blk_alloc ?_ _)); exact BK179.out) hb); have n5_ := Aside0.mk (blk_below (g := gb188) (o := .cells #[.slice Ao23 t184.length co23] 27 (0, 0)) (by (with_reducible repeat (first | refine blk_drewN ?_ _ | refine blk_drew ?_ | refine blk_alloc ?_ _)); exact BK188.out) hb); have n6_ := Aside0.mk (blk_below (g := gb192) (o := .cells #[.slice Ao29 t189.length co29] 27 (0, 0)) (by (with_reducible repeat (first | refine blk_drewN ?_ _ | refine blk_drew ?_ | refine blk_alloc ?_ _)); exact BK192.out) hb); have n7_ := Aside0.mk (below_step (by repeat (first | (with_reducible first | exact HB.out | apply below_alloc | apply pw_below_drewN | apply below_drew1 | refine below_set ?_ GE179.out | refine below_set ?_ GE188.out | refine below_set ?_ GE192.out) | exact HB.out)) hb); have n8_ := Aside0.mk (hbox); have n9_ := Aside0.mk ((by rw [hg]; exact (below_size (by repeat (first | (with_reducible first | exact HB.out | apply below_alloc | apply pw_below_drewN | apply below_drew1 | refine below_set ?_ GE179.out | refine below_set ?_ GE188.out | refine below_set ?_ GE192.out) | exact HB.out))) : w.heap.size ≤ gb197)); have n10_ := Aside0.mk ((by rw [hg]; exact (below_size (by repeat (first | (with_reducible first | exact HB.out | apply below_alloc | apply pw_below_drewN | apply below_drew1 | refine below_set ?_ GE179.out | refine below_set ?_ GE188.out | refine below_set ?_ GE192.out) | exact HB.out))) : w.heap.size ≤ gb197)); have n11_ := Aside0.mk ((by rw [hg]; exact Nat.ne_of_lt (blk_lt (g := gb179) (o := .cells #[.slice A0_0 l0_0.length c0_0] 24 (0, 0)) (by (with_reducible repeat (first | refine blk_drewN ?_ _ | refine blk_drew ?_ | refine blk_alloc ?_ _)); exact BK179.out)) : gb179 ≠ gb197)); have n12_ := Aside0.mk ((by rw [hg]; exact Nat.ne_of_gt (blk_lt (g := gb179) (o := .cells #[.slice A0_0 l0_0.length c0_0] 24 (0, 0)) (by (with_reducible repeat (first | refine blk_drewN ?_ _ | refine blk_drew ?_ | refine blk_alloc ?_ _)); exact BK179.out)) : gb197 ≠ gb179)); have n13_ := Aside0.mk ((by rw [hg]; exact Nat.ne_of_lt (blk_lt (g := gb188) (o := .cells #[.slice Ao23 t184.length co23] 27 (0, 0)) (by (with_reducible repeat (first | refine blk_drewN ?_ _ | refine blk_drew ?_ | refine blk_alloc ?_ _)); exact BK188.out)) : gb188 ≠ gb197)); have n14_ := Aside0.mk ((by rw [hg]; exact Nat.ne_of_gt (blk_lt (g := gb188) (o := .cells #[.slice Ao23 t184.length co23] 27 (0, 0)) (by (with_reducible repeat (first | refine blk_drewN ?_ _ | refine blk_drew ?_ | refine blk_alloc ?_ _)); exact BK188.out)) : gb197 ≠ gb188)); have n15_ := Aside0.mk ((by rw [hg]; exact Nat.ne_of_lt (blk_lt (g := gb192) (o := .cells #[.slice Ao29 t189.length co29] 27 (0, 0)) (by (with_reducible repeat (first | refine blk_drewN ?_ _ | refine blk_drew ?_ | refine blk_alloc ?_ _)); exact BK192.out)) : gb192 ≠ gb197)); have n16_ := Aside0.mk ((by rw [hg]; exact Nat.ne_of_gt (blk_lt (g := gb192) (o := .cells #[.slice Ao29 t189.length co29] 27 (0, 0)) (by (with_reducible repeat (first | refine blk_drewN ?_ _ | refine blk_drew ?_ | refine blk_alloc ?_ _)); exact BK192.out)) : gb197 ≠ gb192)); clear HO183; clear HO186; clear HO191; clear HO195; clear BK179; clear BK188; clear BK192; clear HB; have HO183 := n0_; have HO186 := n1_; have HO191 := n2_; have HO195 := n3_; have BK179 := n4_; have BK188 := n5_; have BK192 := n6_; have HB := n7_; have BK197 := n8_; have GW197 := n9_; have GE197 := n10_; have NB179_197 := n11_; have NB197_179 := n12_; have NB188_197 := n13_; have NB197_188 := n14_; have NB192_197 := n15_; have NB197_192 := n16_; clear n0_ n1_ n2_ n3_ n4_ n5_ n6_ n7_ n8_ n9_ n10_ n11_ n12_ n13_ n14_ n15_ n16_; clear hb hbox hg; obtain ⟨Ao35, co35, eo35⟩ := Kd.R_slice HO195.out; subst eo35; have hnb36 := NB197_179.out; have hnc36 := NB179_197.out; have hnb37 := NB197_188.out; have hnc37 := NB188_197.out; have hnb38 := NB197_192.out; have hnc38 := NB192_197.out; have hcz39_0 : w34.cell? ⟨gb197, 0, none⟩ = some (.slice none 0 0) := (blk_cell BK197.out 0).trans rfl; have hfz39_0 := blk_frozen BK197.out 0))
      (try simp only [Act.put, List.setIfInBounds_toArray, List.set_cons_zero, List.set_cons_succ])
      go_cut [47] (fun v47 wc => ∃ (kq : Nat) (x47_13 : Bool), v47 = .bool x47_13 ∧ Aside0 (laws_FnExactAddLetter.j0 kq a1 t187 t196 x47_13 l0_0 t184 t189 t193 = some r) ∧ Aside0 (kq ≤ k) ∧ Aside0 (Kd.R Kd.string 9 wc w.heap.size (fun k_ => some k_ ≠ ((.slice Ao29 t189.length co29) : Value).ownBlock ∧ some k_ ≠ ((.slice Ao35 t193.length co35) : Value).ownBlock) (.slice Ao23 t184.length co23) t184) ∧ Aside0 (Kd.R Kd.string 9 wc w.heap.size (fun k_ => some k_ ≠ ((.slice Ao23 t184.length co23) : Value).ownBlock ∧ some k_ ≠ ((.slice Ao35 t193.length co35) : Value).ownBlock) (.slice Ao29 t189.length co29) t189) ∧ Aside0 (Kd.R Kd.string 9 wc w.heap.size (fun k_ => some k_ ≠ ((.slice Ao23 t184.length co23) : Value).ownBlock ∧ some k_ ≠ ((.slice Ao29 t189.length co29) : Value).ownBlock) (.slice Ao35 t193.length co35) t193) ∧ Aside0 (wc.heap[gb179]? = some (.cells #[(.slice A0_0 l0_0.length c0_0)] 24 (0, 0))) ∧ Aside0 (wc.heap[gb188]? = some (.cells #[(.slice Ao23 t184.length co23)] 27 (0, 0))) ∧ Aside0 (wc.heap[gb192]? = some (.cells #[(.slice Ao29 t189.length co29)] 27 (0, 0))) ∧ Aside0 (wc.heap[gb197]? = some (.cells #[(.slice Ao35 t193.length co35)] 27 (0, 0))) ∧ Aside0 (Below w.heap.size w wc))
      case first =>
        have H := HC14.out
        clear HC14
        replace H := Option.bind_eq_some_iff.mp H
        obtain ⟨t198, A400, H⟩ := H
        replace H : (if t198 = true then (laws_FnExactAddLetter.j0 k a1 t187 t196 (t196 != t187) l0_0 t184 t189 t193) else (laws_FnExactAddLetter.j0 k a1 t187 t196 true l0_0 t184 t189 t193)) = some r := H
        have A40 := Aside0.mk A400
        clear A400
        by_cases c41 : t198 = true
        · subst c41
          have H1 : (laws_FnExactAddLetter.j0 k a1 t187 t196 (t196 != t187) l0_0 t184 t189 t193) = some r := by rw [if_pos rfl] at H; exact H
          clear H
          have H := H1
          clear H1
          have H' := Aside0.mk H
          clear H
          have hnb42 := NB197_179.out
          have hnc42 := NB179_197.out
          have hnb43 := NB197_188.out
          have hnc43 := NB188_197.out
          have hnb44 := NB197_192.out
          have hnc44 := NB192_197.out
          have hcz45_0 : w34.cell? ⟨gb197, 0, none⟩ = some (.slice none 0 0) := (blk_cell BK197.out 0).trans rfl
          have hfz45_0 := blk_frozen BK197.out 0
          have hnb46 := NB188_179.out
          have hnc46 := NB179_188.out
          have hnb47 := NB188_192.out
          have hnc47 := NB192_188.out
          have hcz48_0 : w34.cell? ⟨gb188, 0, none⟩ = some (.slice Ao23 t184.length co23) := (blk_cell BK188.out 0).trans rfl
          have hfz48_0 := blk_frozen BK188.out 0
          go_wp2_with (first | ((with_reducible refine gate_callee (f := 19) rfl ?_); refine goesL_ (some 41) rfl rfl Tryd.func19 (by kernel_rfl) rfl #[.agg #[.slice Ao35 t193.length co35], .agg #[.slice Ao23 t184.length co23]] rfl (by (try simp only [List.map_toArray, List.map_cons, List.map_nil]); first | done | rfl | (simp only [List.length_drop, List.length_take]; rfl)) ?_; (with_reducible refine (laws_eqTable.calls k _ _ t193 _ _ t184 true _ ?side1 ?side2 ?side3 ?side4 A40.out).mono ?_); (case side1 => refine (Kd.R_reads' (e := 9) (base := w.heap.size) (ok := fun k_ => (((True ∧ some k_ ≠ (.slice Ao20 t181.length co20 : Value).ownBlock) ∧ some k_ ≠ (.slice Ao23 t184.length co23 : Value).ownBlock) ∧ some k_ ≠ (.slice Ao29 t189.length co29 : Value).ownBlock)) (n := t193.length) (c := co35) ?_).2.2; exact (by (with_reducible repeat (first | apply Kd.R_alloc | apply Kd.R_drewN | apply Kd.R_drew)); exact (Kd.R_mono (Kd.R_far (p := ⟨gb197, 0, none⟩) (Kd.R_types HO195.out BK197.out (by decide)) (fun _ hk => hk.2) (.slice Ao35 t193.length co35)) (fun _ h_ => h_.1)))); (case side2 => exact (Kd.R_reads' HO195.out).2.1); (case side3 => refine (Kd.R_reads' (e := 9) (base := w.heap.size) (ok := fun k_ => (((True ∧ some k_ ≠ (.slice Ao20 t181.length co20 : Value).ownBlock) ∧ some k_ ≠ (.slice Ao29 t189.length co29 : Value).ownBlock) ∧ some k_ ≠ (.slice Ao35 t193.length co35 : Value).ownBlock)) (n := t184.length) (c := co23) ?_).2.2; exact (by (with_reducible repeat (first | apply Kd.R_alloc | apply Kd.R_drewN | apply Kd.R_drew)); exact (Kd.R_mono (Kd.R_far (p := ⟨gb197, 0, none⟩) (Kd.R_types HO186.out BK197.out (by decide)) (fun _ hk => hk.2) (.slice Ao35 t193.length co35)) (fun _ h_ => h_.1)))); (case side4 => exact (Kd.R_reads' HO186.out).2.1); rintro e w49 ⟨rfl, hb⟩; refine ⟨_, rfl, ?_⟩; have n0_ := Aside0.mk (Kd.R_below (by (with_reducible repeat (first | apply Kd.R_alloc | apply Kd.R_drewN | apply Kd.R_drew)); exact (Kd.R_mono (Kd.R_far (p := ⟨gb197, 0, none⟩) (Kd.R_types HO183.out BK197.out (by decide)) (fun _ hk => hk.2) (.slice Ao35 t193.length co35)) (fun _ h_ => h_.1))) hb); have n1_ := Aside0.mk (Kd.R_below (by (with_reducible repeat (first | apply Kd.R_alloc | apply Kd.R_drewN | apply Kd.R_drew)); exact (Kd.R_mono (Kd.R_far (p := ⟨gb197, 0, none⟩) (Kd.R_types HO186.out BK197.out (by decide)) (fun _ hk => hk.2) (.slice Ao35 t193.length co35)) (fun _ h_ => h_.1))) hb); have n2_ := Aside0.mk (Kd.R_below (by (with_reducible repeat (first | apply Kd.R_alloc | apply Kd.R_drewN | apply Kd.R_drew)); exact (Kd.R_mono (Kd.R_far (p := ⟨gb197, 0, none⟩) (Kd.R_types HO191.out BK197.out (by decide)) (fun _ hk => hk.2) (.slice Ao35 t193.length co35)) (fun _ h_ => h_.1))) hb); have n3_ := Aside0.mk (Kd.R_below (by (with_reducible repeat (first | apply Kd.R_alloc | apply Kd.R_drewN | apply Kd.R_drew)); exact (Kd.R_mono (Kd.R_far (p := ⟨gb197, 0, none⟩) (Kd.R_types HO195.out BK197.out (by decide)) (fun _ hk => hk.2) (.slice Ao35 t193.length co35)) (fun _ h_ => h_.1))) hb); have n4_ := Aside0.mk (blk_below (g := gb179) (o := .cells #[.slice A0_0 l0_0.length c0_0] 24 (0, 0)) (by (with_reducible repeat (first | refine blk_drewN ?_ _ | refine blk_drew ?_ | refine blk_alloc ?_ _)); refine blk_far ?_ NB179_197.out _; (with_reducible repeat (first | refine blk_drewN ?_ _ | refine blk_drew ?_ | refine blk_alloc ?_ _)); exact BK179.out) hb); have n5_ := Aside0.mk (blk_below (g := gb188) (o := .cells #[.slice Ao23 t184.length co23] 27 (0, 0)) (by (with_reducible repeat (first | refine blk_drewN ?_ _ | refine blk_drew ?_ | refine blk_alloc ?_ _)); refine blk_far ?_ NB188_197.out _; (with_reducible repeat (first | refine blk_drewN ?_ _ | refine blk_drew ?_ | refine blk_alloc ?_ _)); exact BK188.out) hb); have n6_ := Aside0.mk (blk_below (g := gb192) (o := .cells #[.slice Ao29 t189.length co29] 27 (0, 0)) (by (with_reducible repeat (first | refine blk_drewN ?_ _ | refine blk_drew ?_ | refine blk_alloc ?_ _)); refine blk_far ?_ NB192_197.out _; (with_reducible repeat (first | refine blk_drewN ?_ _ | refine blk_drew ?_ | refine blk_alloc ?_ _)); exact BK192.out) hb); have n7_ := Aside0.mk (blk_below (g := gb197) (o := .cells #[.slice Ao35 t193.length co35] 27 (0, 0)) (by (with_reducible repeat (first | refine blk_drewN ?_ _ | refine blk_drew ?_ | refine blk_alloc ?_ _)); refine blk_put (cs := #[.slice none 0 0]) ?_ 0 _ rfl; (with_reducible repeat (first | refine blk_drewN ?_ _ | refine blk_drew ?_ | refine blk_alloc ?_ _)); exact BK197.out) hb); have n8_ := Aside0.mk (below_step (by repeat (first | (with_reducible first | exact HB.out | apply below_alloc | apply pw_below_drewN | apply below_drew1 | refine below_set ?_ GE179.out | refine below_set ?_ GE188.out | refine below_set ?_ GE192.out | refine below_set ?_ GE197.out) | exact HB.out)) hb); clear HO183; clear HO186; clear HO191; clear HO195; clear BK179; clear BK188; clear BK192; clear BK197; clear HB; have HO183 := n0_; have HO186 := n1_; have HO191 := n2_; have HO195 := n3_; have BK179 := n4_; have BK188 := n5_; have BK192 := n6_; have BK197 := n7_; have HB := n8_; clear n0_ n1_ n2_ n3_ n4_ n5_ n6_ n7_ n8_; (try clear hb); (try clear hb2); (try clear hk); (try clear hi)))
          go_meet
          case rel => exact ⟨_, ((t196 != t187)), (by first | rfl | (simp; done) | (simp [*]; done)), H', ⟨by first | omega | exact Nat.le_refl _⟩, ⟨by (with_reducible repeat (first | apply Kd.R_alloc | apply Kd.R_drewN | apply Kd.R_drew)); exact Kd.R_mono HO186.out (fun _ hk => ⟨hk.1.2, hk.2⟩)⟩, ⟨by (with_reducible repeat (first | apply Kd.R_alloc | apply Kd.R_drewN | apply Kd.R_drew)); exact Kd.R_mono HO191.out (fun _ hk => ⟨hk.1.2, hk.2⟩)⟩, ⟨by (with_reducible repeat (first | apply Kd.R_alloc | apply Kd.R_drewN | apply Kd.R_drew)); exact Kd.R_mono HO195.out (fun _ hk => ⟨hk.1.2, hk.2⟩)⟩, ⟨by (with_reducible repeat (first | refine blk_drewN ?_ _ | refine blk_drew ?_ | refine blk_alloc ?_ _)); exact BK179.out⟩, ⟨by (with_reducible repeat (first | refine blk_drewN ?_ _ | refine blk_drew ?_ | refine blk_alloc ?_ _)); exact BK188.out⟩, ⟨by (with_reducible repeat (first | refine blk_drewN ?_ _ | refine blk_drew ?_ | refine blk_alloc ?_ _)); exact BK192.out⟩, ⟨by (with_reducible repeat (first | refine blk_drewN ?_ _ | refine blk_drew ?_ | refine blk_alloc ?_ _)); exact BK197.out⟩, ⟨by repeat (first | (with_reducible first | exact HB.out | apply below_alloc | apply pw_below_drewN | apply below_drew1 | refine below_set ?_ GE179.out | refine below_set ?_ GE188.out | refine below_set ?_ GE192.out | refine below_set ?_ GE197.out) | exact HB.out)⟩⟩
        · replace c41 := Bool.eq_false_iff.mpr c41
          subst c41
          have H1 : (laws_FnExactAddLetter.j0 k a1 t187 t196 true l0_0 t184 t189 t193) = some r := by rw [if_neg (show ¬ (false = true) by decide)] at H; exact H
          clear H
          have H := H1
          clear H1
          have H' := Aside0.mk H
          clear H
          have hnb50 := NB197_179.out
          have hnc50 := NB179_197.out
          have hnb51 := NB197_188.out
          have hnc51 := NB188_197.out
          have hnb52 := NB197_192.out
          have hnc52 := NB192_197.out
          have hcz53_0 : w34.cell? ⟨gb197, 0, none⟩ = some (.slice none 0 0) := (blk_cell BK197.out 0).trans rfl
          have hfz53_0 := blk_frozen BK197.out 0
          have hnb54 := NB188_179.out
          have hnc54 := NB179_188.out
          have hnb55 := NB188_192.out
          have hnc55 := NB192_188.out
          have hcz56_0 : w34.cell? ⟨gb188, 0, none⟩ = some (.slice Ao23 t184.length co23) := (blk_cell BK188.out 0).trans rfl
          have hfz56_0 := blk_frozen BK188.out 0
          go_wp2_with (first | ((with_reducible refine gate_callee (f := 19) rfl ?_); refine goesL_ (some 41) rfl rfl Tryd.func19 (by kernel_rfl) rfl #[.agg #[.slice Ao35 t193.length co35], .agg #[.slice Ao23 t184.length co23]] rfl (by (try simp only [List.map_toArray, List.map_cons, List.map_nil]); first | done | rfl | (simp only [List.length_drop, List.length_take]; rfl)) ?_; (with_reducible refine (laws_eqTable.calls k _ _ t193 _ _ t184 false _ ?side1 ?side2 ?side3 ?side4 A40.out).mono ?_); (case side1 => refine (Kd.R_reads' (e := 9) (base := w.heap.size) (ok := fun k_ => (((True ∧ some k_ ≠ (.slice Ao20 t181.length co20 : Value).ownBlock) ∧ some k_ ≠ (.slice Ao23 t184.length co23 : Value).ownBlock) ∧ some k_ ≠ (.slice Ao29 t189.length co29 : Value).ownBlock)) (n := t193.length) (c := co35) ?_).2.2; exact (by (with_reducible repeat (first | apply Kd.R_alloc | apply Kd.R_drewN | apply Kd.R_drew)); exact (Kd.R_mono (Kd.R_far (p := ⟨gb197, 0, none⟩) (Kd.R_types HO195.out BK197.out (by decide)) (fun _ hk => hk.2) (.slice Ao35 t193.length co35)) (fun _ h_ => h_.1)))); (case side2 => exact (Kd.R_reads' HO195.out).2.1); (case side3 => refine (Kd.R_reads' (e := 9) (base := w.heap.size) (ok := fun k_ => (((True ∧ some k_ ≠ (.slice Ao20 t181.length co20 : Value).ownBlock) ∧ some k_ ≠ (.slice Ao29 t189.length co29 : Value).ownBlock) ∧ some k_ ≠ (.slice Ao35 t193.length co35 : Value).ownBlock)) (n := t184.length) (c := co23) ?_).2.2; exact (by (with_reducible repeat (first | apply Kd.R_alloc | apply Kd.R_drewN | apply Kd.R_drew)); exact (Kd.R_mono (Kd.R_far (p := ⟨gb197, 0, none⟩) (Kd.R_types HO186.out BK197.out (by decide)) (fun _ hk => hk.2) (.slice Ao35 t193.length co35)) (fun _ h_ => h_.1)))); (case side4 => exact (Kd.R_reads' HO186.out).2.1); rintro e w57 ⟨rfl, hb⟩; refine ⟨_, rfl, ?_⟩; have n0_ := Aside0.mk (Kd.R_below (by (with_reducible repeat (first | apply Kd.R_alloc | apply Kd.R_drewN | apply Kd.R_drew)); exact (Kd.R_mono (Kd.R_far (p := ⟨gb197, 0, none⟩) (Kd.R_types HO183.out BK197.out (by decide)) (fun _ hk => hk.2) (.slice Ao35 t193.length co35)) (fun _ h_ => h_.1))) hb); have n1_ := Aside0.mk (Kd.R_below (by (with_reducible repeat (first | apply Kd.R_alloc | apply Kd.R_drewN | apply Kd.R_drew)); exact (Kd.R_mono (Kd.R_far (p := ⟨gb197, 0, none⟩) (Kd.R_types HO186.out BK197.out (by decide)) (fun _ hk => hk.2) (.slice Ao35 t193.length co35)) (fun _ h_ => h_.1))) hb); have n2_ := Aside0.mk (Kd.R_below (by (with_reducible repeat (first | apply Kd.R_alloc | apply Kd.R_drewN | apply Kd.R_drew)); exact (Kd.R_mono (Kd.R_far (p := ⟨gb197, 0, none⟩) (Kd.R_types HO191.out BK197.out (by decide)) (fun _ hk => hk.2) (.slice Ao35 t193.length co35)) (fun _ h_ => h_.1))) hb); have n3_ := Aside0.mk (Kd.R_below (by (with_reducible repeat (first | apply Kd.R_alloc | apply Kd.R_drewN | apply Kd.R_drew)); exact (Kd.R_mono (Kd.R_far (p := ⟨gb197, 0, none⟩) (Kd.R_types HO195.out BK197.out (by decide)) (fun _ hk => hk.2) (.slice Ao35 t193.length co35)) (fun _ h_ => h_.1))) hb); have n4_ := Aside0.mk (blk_below (g := gb179) (o := .cells #[.slice A0_0 l0_0.length c0_0] 24 (0, 0)) (by (with_reducible repeat (first | refine blk_drewN ?_ _ | refine blk_drew ?_ | refine blk_alloc ?_ _)); refine blk_far ?_ NB179_197.out _; (with_reducible repeat (first | refine blk_drewN ?_ _ | refine blk_drew ?_ | refine blk_alloc ?_ _)); exact BK179.out) hb); have n5_ := Aside0.mk (blk_below (g := gb188) (o := .cells #[.slice Ao23 t184.length co23] 27 (0, 0)) (by (with_reducible repeat (first | refine blk_drewN ?_ _ | refine blk_drew ?_ | refine blk_alloc ?_ _)); refine blk_far ?_ NB188_197.out _; (with_reducible repeat (first | refine blk_drewN ?_ _ | refine blk_drew ?_ | refine blk_alloc ?_ _)); exact BK188.out) hb); have n6_ := Aside0.mk (blk_below (g := gb192) (o := .cells #[.slice Ao29 t189.length co29] 27 (0, 0)) (by (with_reducible repeat (first | refine blk_drewN ?_ _ | refine blk_drew ?_ | refine blk_alloc ?_ _)); refine blk_far ?_ NB192_197.out _; (with_reducible repeat (first | refine blk_drewN ?_ _ | refine blk_drew ?_ | refine blk_alloc ?_ _)); exact BK192.out) hb); have n7_ := Aside0.mk (blk_below (g := gb197) (o := .cells #[.slice Ao35 t193.length co35] 27 (0, 0)) (by (with_reducible repeat (first | refine blk_drewN ?_ _ | refine blk_drew ?_ | refine blk_alloc ?_ _)); refine blk_put (cs := #[.slice none 0 0]) ?_ 0 _ rfl; (with_reducible repeat (first | refine blk_drewN ?_ _ | refine blk_drew ?_ | refine blk_alloc ?_ _)); exact BK197.out) hb); have n8_ := Aside0.mk (below_step (by repeat (first | (with_reducible first | exact HB.out | apply below_alloc | apply pw_below_drewN | apply below_drew1 | refine below_set ?_ GE179.out | refine below_set ?_ GE188.out | refine below_set ?_ GE192.out | refine below_set ?_ GE197.out) | exact HB.out)) hb); clear HO183; clear HO186; clear HO191; clear HO195; clear BK179; clear BK188; clear BK192; clear BK197; clear HB; have HO183 := n0_; have HO186 := n1_; have HO191 := n2_; have HO195 := n3_; have BK179 := n4_; have BK188 := n5_; have BK192 := n6_; have BK197 := n7_; have HB := n8_; clear n0_ n1_ n2_ n3_ n4_ n5_ n6_ n7_ n8_; (try clear hb); (try clear hb2); (try clear hk); (try clear hi)))
          go_meet
          case rel => exact ⟨_, (true), (by first | rfl | (simp; done) | (simp [*]; done)), H', ⟨by first | omega | exact Nat.le_refl _⟩, ⟨by (with_reducible repeat (first | apply Kd.R_alloc | apply Kd.R_drewN | apply Kd.R_drew)); exact Kd.R_mono HO186.out (fun _ hk => ⟨hk.1.2, hk.2⟩)⟩, ⟨by (with_reducible repeat (first | apply Kd.R_alloc | apply Kd.R_drewN | apply Kd.R_drew)); exact Kd.R_mono HO191.out (fun _ hk => ⟨hk.1.2, hk.2⟩)⟩, ⟨by (with_reducible repeat (first | apply Kd.R_alloc | apply Kd.R_drewN | apply Kd.R_drew)); exact Kd.R_mono HO195.out (fun _ hk => ⟨hk.1.2, hk.2⟩)⟩, ⟨by (with_reducible repeat (first | refine blk_drewN ?_ _ | refine blk_drew ?_ | refine blk_alloc ?_ _)); exact BK179.out⟩, ⟨by (with_reducible repeat (first | refine blk_drewN ?_ _ | refine blk_drew ?_ | refine blk_alloc ?_ _)); exact BK188.out⟩, ⟨by (with_reducible repeat (first | refine blk_drewN ?_ _ | refine blk_drew ?_ | refine blk_alloc ?_ _)); exact BK192.out⟩, ⟨by (with_reducible repeat (first | refine blk_drewN ?_ _ | refine blk_drew ?_ | refine blk_alloc ?_ _)); exact BK197.out⟩, ⟨by repeat (first | (with_reducible first | exact HB.out | apply below_alloc | apply pw_below_drewN | apply below_drew1 | refine below_set ?_ GE179.out | refine below_set ?_ GE188.out | refine below_set ?_ GE192.out | refine below_set ?_ GE197.out) | exact HB.out)⟩⟩
      case rest =>
        clear HC14
        try clear c1
        try clear c2
        try clear p2
        try clear c3
        try clear c3b0
        try clear c3b1
        try clear c4
        try clear c5
        try clear c6
        try clear c6b0
        try clear c9
        try clear c15
        try clear c17
        try clear c19
        try clear c24
        try clear c30
        try clear c31
        try clear c36
        try clear c37
        try clear c38
        try clear c41
        try clear c42
        try clear c43
        try clear c44
        try clear c46
        try clear c47
        try clear c50
        try clear c51
        try clear c52
        try clear c54
        try clear c55
        try clear hcz16_0
        try clear hcz18_0
        try clear hcz25_0
        try clear hcz26_0
        try clear hcz32_0
        try clear hcz39_0
        try clear hcz45_0
        try clear hcz48_0
        try clear hcz53_0
        try clear hcz56_0
        try clear hcz8_0
        try clear hfz16_0
        try clear hfz18_0
        try clear hfz25_0
        try clear hfz26_0
        try clear hfz32_0
        try clear hfz39_0
        try clear hfz45_0
        try clear hfz48_0
        try clear hfz53_0
        try clear hfz56_0
        try clear hfz8_0
        obtain ⟨kq, x47_13, rfl, HA, HJ13, HO_189000, HO_193000, HO_198000, BK179, BK188, BK192, BK197, HB⟩ := hcut
        cases kq with
        | zero => exact absurd HA.out (by simp [laws_FnExactAddLetter.j0])
        | succ kj13 =>
          have H := HA.out
          clear HA
          simp only [laws_FnExactAddLetter.j0] at H
          by_cases c58 : x47_13 = true
          · subst c58
            have H1 : (some false) = some r := by rw [if_pos rfl] at H; exact H
            clear H
            have H := H1
            clear H1
            obtain rfl := Option.some.inj H
            go_wp2
            go_ret
            exact ⟨by first | rfl | (simp [errW_none, errW_some] <;> rfl) | (simp [*, errW_none, errW_some] <;> rfl), by repeat (first | (with_reducible first | exact HB.out | apply below_alloc | apply pw_below_drewN | apply below_drew1 | refine below_set ?_ GE179.out | refine below_set ?_ GE188.out | refine below_set ?_ GE192.out | refine below_set ?_ GE197.out) | exact HB.out)⟩
          · replace c58 := Bool.eq_false_iff.mpr c58
            subst c58
            have H1 : ((laws_toTable.f kj13 l0_0).bind fun t199 => ((laws_eqTable.f kj13 t189 t199).bind fun t202 => (if t202 = true then ((laws_markTable.f kj13 t189 1).bind fun bt203 => (if bt203.1 < 0 then (laws_FnExactAddLetter.j1 kj13 a1 t187 true l0_0 t184 t193) else ((laws_eqTable.f kj13 t193 t184).bind fun t205 => (if t205 = true then (laws_FnExactAddLetter.j1 kj13 a1 t187 (t196 != t187) l0_0 t184 t193) else (laws_FnExactAddLetter.j1 kj13 a1 t187 true l0_0 t184 t193))))) else (some false)))) = some r := by rw [if_neg (show ¬ (false = true) by decide)] at H; exact H
            clear H
            have H := H1
            clear H1
            replace H := Option.bind_eq_some_iff.mp H
            obtain ⟨t199, A590, H⟩ := H
            replace H : ((laws_eqTable.f kj13 t189 t199).bind fun t202 => (if t202 = true then ((laws_markTable.f kj13 t189 1).bind fun bt203 => (if bt203.1 < 0 then (laws_FnExactAddLetter.j1 kj13 a1 t187 true l0_0 t184 t193) else ((laws_eqTable.f kj13 t193 t184).bind fun t205 => (if t205 = true then (laws_FnExactAddLetter.j1 kj13 a1 t187 (t196 != t187) l0_0 t184 t193) else (laws_FnExactAddLetter.j1 kj13 a1 t187 true l0_0 t184 t193))))) else (some false))) = some r := H
            have A59 := Aside0.mk A590
            clear A590
            replace H := Option.bind_eq_some_iff.mp H
            obtain ⟨t202, A600, H⟩ := H
            replace H : (if t202 = true then ((laws_markTable.f kj13 t189 1).bind fun bt203 => (if bt203.1 < 0 then (laws_FnExactAddLetter.j1 kj13 a1 t187 true l0_0 t184 t193) else ((laws_eqTable.f kj13 t193 t184).bind fun t205 => (if t205 = true then (laws_FnExactAddLetter.j1 kj13 a1 t187 (t196 != t187) l0_0 t184 t193) else (laws_FnExactAddLetter.j1 kj13 a1 t187 true l0_0 t184 t193))))) else (some false)) = some r := H
            have A60 := Aside0.mk A600
            clear A600
            by_cases c61 : t202 = true
            · subst c61
              have H1 : ((laws_markTable.f kj13 t189 1).bind fun bt203 => (if bt203.1 < 0 then (laws_FnExactAddLetter.j1 kj13 a1 t187 true l0_0 t184 t193) else ((laws_eqTable.f kj13 t193 t184).bind fun t205 => (if t205 = true then (laws_FnExactAddLetter.j1 kj13 a1 t187 (t196 != t187) l0_0 t184 t193) else (laws_FnExactAddLetter.j1 kj13 a1 t187 true l0_0 t184 t193))))) = some r := by rw [if_pos rfl] at H; exact H
              clear H
              have H := H1
              clear H1
              replace H := Option.bind_eq_some_iff.mp H
              obtain ⟨⟨t203, t204⟩, A620, H⟩ := H
              replace H : (if t203 < 0 then (laws_FnExactAddLetter.j1 kj13 a1 t187 true l0_0 t184 t193) else ((laws_eqTable.f kj13 t193 t184).bind fun t205 => (if t205 = true then (laws_FnExactAddLetter.j1 kj13 a1 t187 (t196 != t187) l0_0 t184 t193) else (laws_FnExactAddLetter.j1 kj13 a1 t187 true l0_0 t184 t193)))) = some r := H
              have A62 := Aside0.mk A620
              clear A620
              have HC63 := Aside0.mk H
              clear H
              try go_wp2
              have n0_ := Aside0.mk (Kd.R_drew HO_189000.out)
              have n1_ := Aside0.mk (Kd.R_drew HO_193000.out)
              have n2_ := Aside0.mk (Kd.R_drew HO_198000.out)
              have n3_ := Aside0.mk (blk_drew BK179.out)
              have n4_ := Aside0.mk (blk_drew BK188.out)
              have n5_ := Aside0.mk (blk_drew BK192.out)
              have n6_ := Aside0.mk (blk_drew BK197.out)
              have n7_ := Aside0.mk (below_drew1 HB.out)
              clear HO_189000
              clear HO_193000
              clear HO_198000
              clear BK179
              clear BK188
              clear BK192
              clear BK197
              clear HB
              have HO_189000 := n0_
              have HO_193000 := n1_
              have HO_198000 := n2_
              have BK179 := n3_
              have BK188 := n4_
              have BK192 := n5_
              have BK197 := n6_
              have HB := n7_
              clear n0_ n1_ n2_ n3_ n4_ n5_ n6_ n7_
              refine start_ (n := 5) (S := fun w' => w'.cell? ⟨gb192, 0, none⟩ = some (.slice Ao29 t189.length co29) ∧ w'.cell? ⟨gb179, 0, none⟩ = some (.slice A0_0 l0_0.length c0_0)) (ds := []) #[false, false, false, false, false] (by kernel_rfl) rfl rfl ⟨(blk_cell BK192.out 0).trans rfl, (blk_cell BK179.out 0).trans rfl⟩ (fun hHeld => ?_)
              generalize wc.drew = w64 at HO_189000 HO_193000 HO_198000 BK179 BK188 BK192 BK197 HB hHeld ⊢
              refine take_ (i := 0) (N := some 48) (v := ?_) (a' := ?_) #[true, false, false, false, false] rfl rfl (by kernel_rfl) (fun _ _ _ h => h) (Or.inl ⟨by rfl, ?_⟩) hHeld ?_ ?_
              rotate_left
              · rintro w' ⟨s0, s1⟩
                go_simp
                with_reducible rfl
              rotate_left
              · simp only [Act.put, List.setIfInBounds_toArray, List.set_cons_zero, List.set_cons_succ, i64_w, i32_w]
                rfl
              refine take_ (i := 1) (N := some 49) (v := ?_) (a' := ?_) #[true, true, false, false, false] rfl rfl (by kernel_rfl) (fun _ _ _ h => h) (Or.inl ⟨by rfl, ?_⟩) hHeld ?_ ?_
              rotate_left
              · rintro w' ⟨s0, s1⟩
                go_simp
                with_reducible rfl
              rotate_left
              · simp only [Act.put, List.setIfInBounds_toArray, List.set_cons_zero, List.set_cons_succ, i64_w, i32_w]
                rfl
              refine one_ (i := 2) (N := some 50) #[true, true, true, false, false] rfl rfl (by kernel_rfl) (by decide) (fun K hK => ?_)
              refine goes_ Tryd.func17 (by kernel_rfl) rfl #[.agg #[.slice A0_0 l0_0.length c0_0]] (by rfl) rfl rfl (by (try simp only [List.map_toArray, List.map_cons, List.map_nil]); first | done | rfl | (simp only [List.length_drop, List.length_take]; rfl)) ?_
              with_reducible refine (laws_toTable.calls kj13 _ _ l0_0 t199 _ ?side1 ?side2 A59.out).mono ?_
              (case side1 => repeat (first | exact (Kd.C_below HR0_0.out HB.out) | (with_reducible refine Kd.C_alloc ?_ _) | (with_reducible refine Kd.C_drewN ?_ _) | (with_reducible refine Kd.C_drew ?_)))
              (case side2 => exact HC0_0.out)
              rintro e w65 ⟨v200, rfl, ho0, hb⟩
              refine ⟨_, rfl, ?_⟩
              have n0_ := Aside0.mk (Kd.R_elder' (by (with_reducible repeat (first | apply Kd.R_alloc | apply Kd.R_drewN | apply Kd.R_drew)); exact HO_189000.out) (Kd.R_base ho0) hb)
              have n1_ := Aside0.mk (Kd.R_elder' (by (with_reducible repeat (first | apply Kd.R_alloc | apply Kd.R_drewN | apply Kd.R_drew)); exact HO_193000.out) (Kd.R_base ho0) hb)
              have n2_ := Aside0.mk (Kd.R_elder' (by (with_reducible repeat (first | apply Kd.R_alloc | apply Kd.R_drewN | apply Kd.R_drew)); exact HO_198000.out) (Kd.R_base ho0) hb)
              have n3_ := Aside0.mk (Kd.R_lower (Kd.R_new' (Kd.R_new' (Kd.R_new' ho0 (Kd.R_lt (by (with_reducible repeat (first | apply Kd.R_alloc | apply Kd.R_drewN | apply Kd.R_drew)); exact HO_189000.out))) (Kd.R_lt (by (with_reducible repeat (first | apply Kd.R_alloc | apply Kd.R_drewN | apply Kd.R_drew)); exact HO_193000.out))) (Kd.R_lt (by (with_reducible repeat (first | apply Kd.R_alloc | apply Kd.R_drewN | apply Kd.R_drew)); exact HO_198000.out))) (below_size (by repeat (first | (with_reducible first | exact HB.out | apply below_alloc | apply pw_below_drewN | apply below_drew1 | refine below_set ?_ GE179.out | refine below_set ?_ GE188.out | refine below_set ?_ GE192.out | refine below_set ?_ GE197.out) | exact HB.out))))
              have n4_ := Aside0.mk (blk_below (g := gb179) (o := .cells #[.slice A0_0 l0_0.length c0_0] 24 (0, 0)) (by (with_reducible repeat (first | refine blk_drewN ?_ _ | refine blk_drew ?_ | refine blk_alloc ?_ _)); exact BK179.out) hb)
              have n5_ := Aside0.mk (blk_below (g := gb188) (o := .cells #[.slice Ao23 t184.length co23] 27 (0, 0)) (by (with_reducible repeat (first | refine blk_drewN ?_ _ | refine blk_drew ?_ | refine blk_alloc ?_ _)); exact BK188.out) hb)
              have n6_ := Aside0.mk (blk_below (g := gb192) (o := .cells #[.slice Ao29 t189.length co29] 27 (0, 0)) (by (with_reducible repeat (first | refine blk_drewN ?_ _ | refine blk_drew ?_ | refine blk_alloc ?_ _)); exact BK192.out) hb)
              have n7_ := Aside0.mk (blk_below (g := gb197) (o := .cells #[.slice Ao35 t193.length co35] 27 (0, 0)) (by (with_reducible repeat (first | refine blk_drewN ?_ _ | refine blk_drew ?_ | refine blk_alloc ?_ _)); exact BK197.out) hb)
              have n8_ := Aside0.mk (below_step (by repeat (first | (with_reducible first | exact HB.out | apply below_alloc | apply pw_below_drewN | apply below_drew1 | refine below_set ?_ GE179.out | refine below_set ?_ GE188.out | refine below_set ?_ GE192.out | refine below_set ?_ GE197.out) | exact HB.out)) hb)
              clear HO_189000
              clear HO_193000
              clear HO_198000
              clear BK179
              clear BK188
              clear BK192
              clear BK197
              clear HB
              have HO_189000 := n0_
              have HO_193000 := n1_
              have HO_198000 := n2_
              have HO201 := n3_
              have BK179 := n4_
              have BK188 := n5_
              have BK192 := n6_
              have BK197 := n7_
              have HB := n8_
              clear n0_ n1_ n2_ n3_ n4_ n5_ n6_ n7_ n8_
              (try clear hb)
              (try clear hb2)
              (try clear hk)
              (try clear hi)
              (try clear ho0)
              obtain ⟨Ao66, co66, eo66⟩ := Kd.R_slice HO201.out
              (first | subst eo66 | (injection eo66 with f1_ f2_ f3_; have f4_ := f1_.symm; have f5_ := f3_.symm; clear f1_ f2_ f3_; subst f4_; subst f5_))
              refine hK.out _ _ ⟨(blk_cell BK192.out 0).trans rfl, (blk_cell BK179.out 0).trans rfl⟩ (fun hHeld => ?_)
              clear hK K
              refine norm_ (a' := ?_) ?_ ?_
              rotate_left
              · show Act.put _ (some 50) _ = _
                simp only [Act.put, List.setIfInBounds_toArray, List.set_cons_zero, List.set_cons_succ, i64_w, i32_w]
                rfl
              refine one_ (i := 3) (N := some 51) #[true, true, true, true, false] rfl rfl (by kernel_rfl) (by decide) (fun K hK => ?_)
              refine goes_ Tryd.func19 (by kernel_rfl) rfl #[.agg #[.slice Ao29 t189.length co29], .agg #[.slice Ao66 t199.length co66]] (by rfl) rfl rfl (by (try simp only [List.map_toArray, List.map_cons, List.map_nil]); first | done | rfl | (simp only [List.length_drop, List.length_take]; rfl)) ?_
              with_reducible refine (laws_eqTable.calls kj13 _ _ t189 _ _ t199 true _ ?side1 ?side2 ?side3 ?side4 A60.out).mono ?_
              (case side1 => repeat (first | exact (Kd.R_reads' HO_193000.out).2.2 | (with_reducible refine Kd.C_alloc ?_ _) | (with_reducible refine Kd.C_drewN ?_ _) | (with_reducible refine Kd.C_drew ?_)))
              (case side2 => exact (Kd.R_reads' HO_193000.out).2.1)
              (case side3 => repeat (first | exact (Kd.R_reads' HO201.out).2.2 | (with_reducible refine Kd.C_alloc ?_ _) | (with_reducible refine Kd.C_drewN ?_ _) | (with_reducible refine Kd.C_drew ?_)))
              (case side4 => exact (Kd.R_reads' HO201.out).2.1)
              rintro e w67 ⟨rfl, hb⟩
              refine ⟨_, rfl, ?_⟩
              have n0_ := Aside0.mk (Kd.R_below (by (with_reducible repeat (first | apply Kd.R_alloc | apply Kd.R_drewN | apply Kd.R_drew)); exact HO_189000.out) hb)
              have n1_ := Aside0.mk (Kd.R_below (by (with_reducible repeat (first | apply Kd.R_alloc | apply Kd.R_drewN | apply Kd.R_drew)); exact HO_193000.out) hb)
              have n2_ := Aside0.mk (Kd.R_below (by (with_reducible repeat (first | apply Kd.R_alloc | apply Kd.R_drewN | apply Kd.R_drew)); exact HO_198000.out) hb)
              have n3_ := Aside0.mk (Kd.R_below (by (with_reducible repeat (first | apply Kd.R_alloc | apply Kd.R_drewN | apply Kd.R_drew)); exact HO201.out) hb)
              have n4_ := Aside0.mk (blk_below (g := gb179) (o := .cells #[.slice A0_0 l0_0.length c0_0] 24 (0, 0)) (by (with_reducible repeat (first | refine blk_drewN ?_ _ | refine blk_drew ?_ | refine blk_alloc ?_ _)); exact BK179.out) hb)
              have n5_ := Aside0.mk (blk_below (g := gb188) (o := .cells #[.slice Ao23 t184.length co23] 27 (0, 0)) (by (with_reducible repeat (first | refine blk_drewN ?_ _ | refine blk_drew ?_ | refine blk_alloc ?_ _)); exact BK188.out) hb)
              have n6_ := Aside0.mk (blk_below (g := gb192) (o := .cells #[.slice Ao29 t189.length co29] 27 (0, 0)) (by (with_reducible repeat (first | refine blk_drewN ?_ _ | refine blk_drew ?_ | refine blk_alloc ?_ _)); exact BK192.out) hb)
              have n7_ := Aside0.mk (blk_below (g := gb197) (o := .cells #[.slice Ao35 t193.length co35] 27 (0, 0)) (by (with_reducible repeat (first | refine blk_drewN ?_ _ | refine blk_drew ?_ | refine blk_alloc ?_ _)); exact BK197.out) hb)
              have n8_ := Aside0.mk (below_step (by repeat (first | (with_reducible first | exact HB.out | apply below_alloc | apply pw_below_drewN | apply below_drew1 | refine below_set ?_ GE179.out | refine below_set ?_ GE188.out | refine below_set ?_ GE192.out | refine below_set ?_ GE197.out) | exact HB.out)) hb)
              clear HO_189000
              clear HO_193000
              clear HO_198000
              clear HO201
              clear BK179
              clear BK188
              clear BK192
              clear BK197
              clear HB
              have HO_189000 := n0_
              have HO_193000 := n1_
              have HO_198000 := n2_
              have HO201 := n3_
              have BK179 := n4_
              have BK188 := n5_
              have BK192 := n6_
              have BK197 := n7_
              have HB := n8_
              clear n0_ n1_ n2_ n3_ n4_ n5_ n6_ n7_ n8_
              (try clear hb)
              (try clear hb2)
              (try clear hk)
              (try clear hi)
              refine hK.out _ _ ⟨(blk_cell BK192.out 0).trans rfl, (blk_cell BK179.out 0).trans rfl⟩ (fun hHeld => ?_)
              clear hK K
              refine norm_ (a' := ?_) ?_ ?_
              rotate_left
              · show Act.put _ (some 51) _ = _
                simp only [Act.put, List.setIfInBounds_toArray, List.set_cons_zero, List.set_cons_succ, i64_w, i32_w]
                rfl
              refine pure_ (i := 4) (N := some 52) (v := ?_) (a' := ?_) #[true, true, true, true, true] rfl rfl (by kernel_rfl) (fun _ _ _ h => h) (Or.inl ⟨by rfl, ?_⟩) ?_ ?_
              rotate_left
              · intro w'
                go_simp
                with_reducible rfl
              rotate_left
              · simp only [Act.put, List.setIfInBounds_toArray, List.set_cons_zero, List.set_cons_succ, i64_w, i32_w]
                rfl
              refine done_ (by kernel_rfl) ?_
              have hnb68 := NB192_179.out
              have hnc68 := NB179_192.out
              have hnb69 := NB192_188.out
              have hnc69 := NB188_192.out
              have hnb70 := NB192_197.out
              have hnc70 := NB197_192.out
              have hcz71_0 : w67.cell? ⟨gb192, 0, none⟩ = some (.slice Ao29 t189.length co29) := (blk_cell BK192.out 0).trans rfl
              have hfz71_0 := blk_frozen BK192.out 0
              go_upto_region 16 with (first | ((with_reducible refine gate_callee (f := 32) rfl ?_); refine goesL_ (some 55) rfl rfl Tryd.func32 (by kernel_rfl) rfl #[.agg #[.slice Ao29 t189.length co29], .int .i64 1] rfl (by (try simp only [List.map_toArray, List.map_cons, List.map_nil]); first | done | rfl | (simp only [List.length_drop, List.length_take]; rfl)) ?_; (with_reducible refine (laws_markTable.calls kj13 (fun k_ => some k_ = (.slice Ao29 t189.length co29 : Value).ownBlock) (.slice Ao29 t189.length co29) t189 1 t203 t204 w _ ?side1 ?side2 A62.out).mono ?_); (case side1 => repeat (first | (with_reducible first | exact HB.out | apply below_alloc | apply pw_below_drewN | apply below_drew1 | refine below_set ?_ GE179.out | refine below_set ?_ GE188.out | refine below_set ?_ GE192.out | refine below_set ?_ GE197.out) | exact HB.out)); (case side2 => exact Kd.R_tight rfl HO_193000.out); rintro e w72 ⟨rfl, hy0, hb, hkp⟩; refine ⟨_, rfl, ?_⟩; have n0_ := Aside0.mk (Kd.R_mono (ok' := fun k_ => some k_ ≠ (.slice Ao29 t189.length co29 : Value).ownBlock ∧ some k_ ≠ (.slice Ao35 t193.length co35 : Value).ownBlock ∧ some k_ ≠ (.slice Ao66 t199.length co66 : Value).ownBlock) (Kd.R_keptB (HO_189000.out) hkp (fun k_ hk_ hs_ => (hk_.1.1) hs_)) (fun k_ hk_ => ⟨hk_.1.1.1, hk_.1.1.2, hk_.1.2⟩)); have n1_ := Aside0.mk (Kd.R_reok rfl hy0 (fun k_ e_ => HO_193000.out.1 k_ e_)); have n2_ := Aside0.mk (Kd.R_mono (ok' := fun k_ => some k_ ≠ (.slice Ao23 t184.length co23 : Value).ownBlock ∧ some k_ ≠ (.slice Ao29 t189.length co29 : Value).ownBlock ∧ some k_ ≠ (.slice Ao66 t199.length co66 : Value).ownBlock) (Kd.R_keptB (HO_198000.out) hkp (fun k_ hk_ hs_ => (hk_.1.2) hs_)) (fun k_ hk_ => ⟨hk_.1.1.1, hk_.1.1.2, hk_.1.2⟩)); have n3_ := Aside0.mk (blk_kept (by (with_reducible repeat (first | refine blk_drewN ?_ _ | refine blk_drew ?_ | refine blk_alloc ?_ _)); exact BK179.out) hkp (fun hs_ => (fun e_ => (Kd.R_ne HO_193000.out BK179.out (by decide)) e_) hs_)); have n4_ := Aside0.mk (blk_kept (by (with_reducible repeat (first | refine blk_drewN ?_ _ | refine blk_drew ?_ | refine blk_alloc ?_ _)); exact BK188.out) hkp (fun hs_ => (fun e_ => (Kd.R_ne HO_193000.out BK188.out (by decide)) e_) hs_)); have n5_ := Aside0.mk (blk_kept (by (with_reducible repeat (first | refine blk_drewN ?_ _ | refine blk_drew ?_ | refine blk_alloc ?_ _)); exact BK192.out) hkp (fun hs_ => (fun e_ => (Kd.R_ne HO_193000.out BK192.out (by decide)) e_) hs_)); have n6_ := Aside0.mk (blk_kept (by (with_reducible repeat (first | refine blk_drewN ?_ _ | refine blk_drew ?_ | refine blk_alloc ?_ _)); exact BK197.out) hkp (fun hs_ => (fun e_ => (Kd.R_ne HO_193000.out BK197.out (by decide)) e_) hs_)); have n7_ := Aside0.mk (Kd.R_mono (ok' := fun k_ => some k_ ≠ (.slice Ao23 t184.length co23 : Value).ownBlock ∧ some k_ ≠ (.slice Ao29 t189.length co29 : Value).ownBlock ∧ some k_ ≠ (.slice Ao35 t193.length co35 : Value).ownBlock) (Kd.R_keptB (HO201.out) hkp (fun k_ hk_ hs_ => (hk_.1.2) hs_)) (fun k_ hk_ => ⟨hk_.1.1.1.2, hk_.1.1.2, hk_.1.2⟩)); have n8_ := Aside0.mk (hb); clear HO_189000; clear HO_193000; clear HO_198000; clear BK179; clear BK188; clear BK192; clear BK197; clear HO201; clear HB; have HO_189000 := n0_; have HO_193000 := n1_; have HO_198000 := n2_; have BK179 := n3_; have BK188 := n4_; have BK192 := n5_; have BK197 := n6_; have HO201 := n7_; have HB := n8_; clear n0_ n1_ n2_ n3_ n4_ n5_ n6_ n7_ n8_; (try clear hb); (try clear hkp); (try clear hy0)))
              (try simp only [Act.put, List.setIfInBounds_toArray, List.set_cons_zero, List.set_cons_succ])
              go_cut [68] (fun v68 wc => ∃ (kq : Nat) (x68_62 : Bool), v68 = .bool x68_62 ∧ Aside0 (laws_FnExactAddLetter.j1 kq a1 t187 x68_62 l0_0 t184 t193 = some r) ∧ Aside0 (kq ≤ kj13) ∧ Aside0 (Kd.R Kd.string 9 wc w.heap.size (fun k_ => some k_ ≠ ((.slice Ao29 t189.length co29) : Value).ownBlock ∧ some k_ ≠ ((.slice Ao35 t193.length co35) : Value).ownBlock) (.slice Ao23 t184.length co23) t184) ∧ Aside0 (Kd.R Kd.string 9 wc w.heap.size (fun k_ => some k_ ≠ ((.slice Ao23 t184.length co23) : Value).ownBlock ∧ some k_ ≠ ((.slice Ao35 t193.length co35) : Value).ownBlock) (.slice Ao29 t189.length co29) t204) ∧ Aside0 (Kd.R Kd.string 9 wc w.heap.size (fun k_ => some k_ ≠ ((.slice Ao23 t184.length co23) : Value).ownBlock ∧ some k_ ≠ ((.slice Ao29 t189.length co29) : Value).ownBlock) (.slice Ao35 t193.length co35) t193) ∧ Aside0 (wc.heap[gb179]? = some (.cells #[(.slice A0_0 l0_0.length c0_0)] 24 (0, 0))) ∧ Aside0 (wc.heap[gb188]? = some (.cells #[(.slice Ao23 t184.length co23)] 27 (0, 0))) ∧ Aside0 (wc.heap[gb192]? = some (.cells #[(.slice Ao29 t189.length co29)] 27 (0, 0))) ∧ Aside0 (wc.heap[gb197]? = some (.cells #[(.slice Ao35 t193.length co35)] 27 (0, 0))) ∧ Aside0 (Below w.heap.size w wc))
              case first =>
                have H := HC63.out
                clear HC63
                by_cases c73 : t203 < 0
                · rw [if_pos c73] at H
                  have c73b0 : decide (t203 < 0) = true := decide_eq_true c73
                  clear c73
                  (first | rw [c73b0] | (simp only [i64_w, i32_w]; rw [c73b0]) | skip)
                  have H' := Aside0.mk H
                  clear H
                  go_wp2
                  go_meet
                  case rel => exact ⟨_, (true), (by first | rfl | (simp; done) | (simp [*]; done)), H', ⟨by have := HJ13.out; first | omega | exact Nat.le_refl _⟩, ⟨by (with_reducible repeat (first | apply Kd.R_alloc | apply Kd.R_drewN | apply Kd.R_drew)); exact Kd.R_mono HO_189000.out (fun _ hk => ⟨hk.1, hk.2.1⟩)⟩, ⟨by (with_reducible repeat (first | apply Kd.R_alloc | apply Kd.R_drewN | apply Kd.R_drew)); exact Kd.R_mono HO_193000.out (fun _ hk => ⟨hk.1.1, hk.1.2⟩)⟩, ⟨by (with_reducible repeat (first | apply Kd.R_alloc | apply Kd.R_drewN | apply Kd.R_drew)); exact Kd.R_mono HO_198000.out (fun _ hk => ⟨hk.1, hk.2.1⟩)⟩, ⟨by (with_reducible repeat (first | refine blk_drewN ?_ _ | refine blk_drew ?_ | refine blk_alloc ?_ _)); exact BK179.out⟩, ⟨by (with_reducible repeat (first | refine blk_drewN ?_ _ | refine blk_drew ?_ | refine blk_alloc ?_ _)); exact BK188.out⟩, ⟨by (with_reducible repeat (first | refine blk_drewN ?_ _ | refine blk_drew ?_ | refine blk_alloc ?_ _)); exact BK192.out⟩, ⟨by (with_reducible repeat (first | refine blk_drewN ?_ _ | refine blk_drew ?_ | refine blk_alloc ?_ _)); exact BK197.out⟩, ⟨by repeat (first | (with_reducible first | exact HB.out | apply below_alloc | apply pw_below_drewN | apply below_drew1 | refine below_set ?_ GE179.out | refine below_set ?_ GE188.out | refine below_set ?_ GE192.out | refine below_set ?_ GE197.out) | exact HB.out)⟩⟩
                · rw [if_neg c73] at H
                  have c73b0 : decide (t203 < 0) = false := decide_eq_false c73
                  clear c73
                  (first | rw [c73b0] | (simp only [i64_w, i32_w]; rw [c73b0]) | skip)
                  replace H := Option.bind_eq_some_iff.mp H
                  obtain ⟨t205, A740, H⟩ := H
                  replace H : (if t205 = true then (laws_FnExactAddLetter.j1 kj13 a1 t187 (t196 != t187) l0_0 t184 t193) else (laws_FnExactAddLetter.j1 kj13 a1 t187 true l0_0 t184 t193)) = some r := H
                  have A74 := Aside0.mk A740
                  clear A740
                  by_cases c75 : t205 = true
                  · subst c75
                    have H1 : (laws_FnExactAddLetter.j1 kj13 a1 t187 (t196 != t187) l0_0 t184 t193) = some r := by rw [if_pos rfl] at H; exact H
                    clear H
                    have H := H1
                    clear H1
                    have H' := Aside0.mk H
                    clear H
                    have hnb76 := NB197_179.out
                    have hnc76 := NB179_197.out
                    have hnb77 := NB197_188.out
                    have hnc77 := NB188_197.out
                    have hnb78 := NB197_192.out
                    have hnc78 := NB192_197.out
                    have hcz79_0 : w72.cell? ⟨gb197, 0, none⟩ = some (.slice Ao35 t193.length co35) := (blk_cell BK197.out 0).trans rfl
                    have hfz79_0 := blk_frozen BK197.out 0
                    have hnb80 := NB188_179.out
                    have hnc80 := NB179_188.out
                    have hnb81 := NB188_192.out
                    have hnc81 := NB192_188.out
                    have hcz82_0 : w72.cell? ⟨gb188, 0, none⟩ = some (.slice Ao23 t184.length co23) := (blk_cell BK188.out 0).trans rfl
                    have hfz82_0 := blk_frozen BK188.out 0
                    go_wp2_with (first | (go_at_call 19; (with_reducible refine (laws_eqTable.calls kj13 _ _ t193 _ _ t184 true _ ?side1 ?side2 ?side3 ?side4 A74.out).mono ?_); (case side1 => repeat (first | exact (Kd.R_reads' HO_198000.out).2.2 | (with_reducible refine Kd.C_alloc ?_ _) | (with_reducible refine Kd.C_drewN ?_ _) | (with_reducible refine Kd.C_drew ?_))); (case side2 => exact (Kd.R_reads' HO_198000.out).2.1); (case side3 => repeat (first | exact (Kd.R_reads' HO_189000.out).2.2 | (with_reducible refine Kd.C_alloc ?_ _) | (with_reducible refine Kd.C_drewN ?_ _) | (with_reducible refine Kd.C_drew ?_))); (case side4 => exact (Kd.R_reads' HO_189000.out).2.1); rintro e w83 ⟨rfl, hb⟩; have n0_ := Aside0.mk (Kd.R_below (by (with_reducible repeat (first | apply Kd.R_alloc | apply Kd.R_drewN | apply Kd.R_drew)); exact HO_189000.out) hb); have n1_ := Aside0.mk (Kd.R_below (by (with_reducible repeat (first | apply Kd.R_alloc | apply Kd.R_drewN | apply Kd.R_drew)); exact HO_193000.out) hb); have n2_ := Aside0.mk (Kd.R_below (by (with_reducible repeat (first | apply Kd.R_alloc | apply Kd.R_drewN | apply Kd.R_drew)); exact HO_198000.out) hb); have n3_ := Aside0.mk (Kd.R_below (by (with_reducible repeat (first | apply Kd.R_alloc | apply Kd.R_drewN | apply Kd.R_drew)); exact HO201.out) hb); have n4_ := Aside0.mk (blk_below (g := gb179) (o := .cells #[.slice A0_0 l0_0.length c0_0] 24 (0, 0)) (by (with_reducible repeat (first | refine blk_drewN ?_ _ | refine blk_drew ?_ | refine blk_alloc ?_ _)); exact BK179.out) hb); have n5_ := Aside0.mk (blk_below (g := gb188) (o := .cells #[.slice Ao23 t184.length co23] 27 (0, 0)) (by (with_reducible repeat (first | refine blk_drewN ?_ _ | refine blk_drew ?_ | refine blk_alloc ?_ _)); exact BK188.out) hb); have n6_ := Aside0.mk (blk_below (g := gb192) (o := .cells #[.slice Ao29 t189.length co29] 27 (0, 0)) (by (with_reducible repeat (first | refine blk_drewN ?_ _ | refine blk_drew ?_ | refine blk_alloc ?_ _)); exact BK192.out) hb); have n7_ := Aside0.mk (blk_below (g := gb197) (o := .cells #[.slice Ao35 t193.length co35] 27 (0, 0)) (by (with_reducible repeat (first | refine blk_drewN ?_ _ | refine blk_drew ?_ | refine blk_alloc ?_ _)); exact BK197.out) hb); have n8_ := Aside0.mk (below_step (by repeat (first | (with_reducible first | exact HB.out | apply below_alloc | apply pw_below_drewN | apply below_drew1 | refine below_set ?_ GE179.out | refine below_set ?_ GE188.out | refine below_set ?_ GE192.out | refine below_set ?_ GE197.out) | exact HB.out)) hb); clear HO_189000; clear HO_193000; clear HO_198000; clear HO201; clear BK179; clear BK188; clear BK192; clear BK197; clear HB; have HO_189000 := n0_; have HO_193000 := n1_; have HO_198000 := n2_; have HO201 := n3_; have BK179 := n4_; have BK188 := n5_; have BK192 := n6_; have BK197 := n7_; have HB := n8_; clear n0_ n1_ n2_ n3_ n4_ n5_ n6_ n7_ n8_; (try clear hb); (try clear hb2); (try clear hk); (try clear hi)))
                    go_meet
                    case rel => exact ⟨_, ((t196 != t187)), (by first | rfl | (simp; done) | (simp [*]; done)), H', ⟨by have := HJ13.out; first | omega | exact Nat.le_refl _⟩, ⟨by (with_reducible repeat (first | apply Kd.R_alloc | apply Kd.R_drewN | apply Kd.R_drew)); exact Kd.R_mono HO_189000.out (fun _ hk => ⟨hk.1, hk.2.1⟩)⟩, ⟨by (with_reducible repeat (first | apply Kd.R_alloc | apply Kd.R_drewN | apply Kd.R_drew)); exact Kd.R_mono HO_193000.out (fun _ hk => ⟨hk.1.1, hk.1.2⟩)⟩, ⟨by (with_reducible repeat (first | apply Kd.R_alloc | apply Kd.R_drewN | apply Kd.R_drew)); exact Kd.R_mono HO_198000.out (fun _ hk => ⟨hk.1, hk.2.1⟩)⟩, ⟨by (with_reducible repeat (first | refine blk_drewN ?_ _ | refine blk_drew ?_ | refine blk_alloc ?_ _)); exact BK179.out⟩, ⟨by (with_reducible repeat (first | refine blk_drewN ?_ _ | refine blk_drew ?_ | refine blk_alloc ?_ _)); exact BK188.out⟩, ⟨by (with_reducible repeat (first | refine blk_drewN ?_ _ | refine blk_drew ?_ | refine blk_alloc ?_ _)); exact BK192.out⟩, ⟨by (with_reducible repeat (first | refine blk_drewN ?_ _ | refine blk_drew ?_ | refine blk_alloc ?_ _)); exact BK197.out⟩, ⟨by repeat (first | (with_reducible first | exact HB.out | apply below_alloc | apply pw_below_drewN | apply below_drew1 | refine below_set ?_ GE179.out | refine below_set ?_ GE188.out | refine below_set ?_ GE192.out | refine below_set ?_ GE197.out) | exact HB.out)⟩⟩
                  · replace c75 := Bool.eq_false_iff.mpr c75
                    subst c75
                    have H1 : (laws_FnExactAddLetter.j1 kj13 a1 t187 true l0_0 t184 t193) = some r := by rw [if_neg (show ¬ (false = true) by decide)] at H; exact H
                    clear H
                    have H := H1
                    clear H1
                    have H' := Aside0.mk H
                    clear H
                    have hnb84 := NB197_179.out
                    have hnc84 := NB179_197.out
                    have hnb85 := NB197_188.out
                    have hnc85 := NB188_197.out
                    have hnb86 := NB197_192.out
                    have hnc86 := NB192_197.out
                    have hcz87_0 : w72.cell? ⟨gb197, 0, none⟩ = some (.slice Ao35 t193.length co35) := (blk_cell BK197.out 0).trans rfl
                    have hfz87_0 := blk_frozen BK197.out 0
                    have hnb88 := NB188_179.out
                    have hnc88 := NB179_188.out
                    have hnb89 := NB188_192.out
                    have hnc89 := NB192_188.out
                    have hcz90_0 : w72.cell? ⟨gb188, 0, none⟩ = some (.slice Ao23 t184.length co23) := (blk_cell BK188.out 0).trans rfl
                    have hfz90_0 := blk_frozen BK188.out 0
                    go_wp2_with (first | (go_at_call 19; (with_reducible refine (laws_eqTable.calls kj13 _ _ t193 _ _ t184 false _ ?side1 ?side2 ?side3 ?side4 A74.out).mono ?_); (case side1 => repeat (first | exact (Kd.R_reads' HO_198000.out).2.2 | (with_reducible refine Kd.C_alloc ?_ _) | (with_reducible refine Kd.C_drewN ?_ _) | (with_reducible refine Kd.C_drew ?_))); (case side2 => exact (Kd.R_reads' HO_198000.out).2.1); (case side3 => repeat (first | exact (Kd.R_reads' HO_189000.out).2.2 | (with_reducible refine Kd.C_alloc ?_ _) | (with_reducible refine Kd.C_drewN ?_ _) | (with_reducible refine Kd.C_drew ?_))); (case side4 => exact (Kd.R_reads' HO_189000.out).2.1); rintro e w91 ⟨rfl, hb⟩; have n0_ := Aside0.mk (Kd.R_below (by (with_reducible repeat (first | apply Kd.R_alloc | apply Kd.R_drewN | apply Kd.R_drew)); exact HO_189000.out) hb); have n1_ := Aside0.mk (Kd.R_below (by (with_reducible repeat (first | apply Kd.R_alloc | apply Kd.R_drewN | apply Kd.R_drew)); exact HO_193000.out) hb); have n2_ := Aside0.mk (Kd.R_below (by (with_reducible repeat (first | apply Kd.R_alloc | apply Kd.R_drewN | apply Kd.R_drew)); exact HO_198000.out) hb); have n3_ := Aside0.mk (Kd.R_below (by (with_reducible repeat (first | apply Kd.R_alloc | apply Kd.R_drewN | apply Kd.R_drew)); exact HO201.out) hb); have n4_ := Aside0.mk (blk_below (g := gb179) (o := .cells #[.slice A0_0 l0_0.length c0_0] 24 (0, 0)) (by (with_reducible repeat (first | refine blk_drewN ?_ _ | refine blk_drew ?_ | refine blk_alloc ?_ _)); exact BK179.out) hb); have n5_ := Aside0.mk (blk_below (g := gb188) (o := .cells #[.slice Ao23 t184.length co23] 27 (0, 0)) (by (with_reducible repeat (first | refine blk_drewN ?_ _ | refine blk_drew ?_ | refine blk_alloc ?_ _)); exact BK188.out) hb); have n6_ := Aside0.mk (blk_below (g := gb192) (o := .cells #[.slice Ao29 t189.length co29] 27 (0, 0)) (by (with_reducible repeat (first | refine blk_drewN ?_ _ | refine blk_drew ?_ | refine blk_alloc ?_ _)); exact BK192.out) hb); have n7_ := Aside0.mk (blk_below (g := gb197) (o := .cells #[.slice Ao35 t193.length co35] 27 (0, 0)) (by (with_reducible repeat (first | refine blk_drewN ?_ _ | refine blk_drew ?_ | refine blk_alloc ?_ _)); exact BK197.out) hb); have n8_ := Aside0.mk (below_step (by repeat (first | (with_reducible first | exact HB.out | apply below_alloc | apply pw_below_drewN | apply below_drew1 | refine below_set ?_ GE179.out | refine below_set ?_ GE188.out | refine below_set ?_ GE192.out | refine below_set ?_ GE197.out) | exact HB.out)) hb); clear HO_189000; clear HO_193000; clear HO_198000; clear HO201; clear BK179; clear BK188; clear BK192; clear BK197; clear HB; have HO_189000 := n0_; have HO_193000 := n1_; have HO_198000 := n2_; have HO201 := n3_; have BK179 := n4_; have BK188 := n5_; have BK192 := n6_; have BK197 := n7_; have HB := n8_; clear n0_ n1_ n2_ n3_ n4_ n5_ n6_ n7_ n8_; (try clear hb); (try clear hb2); (try clear hk); (try clear hi)))
                    go_meet
                    case rel => exact ⟨_, (true), (by first | rfl | (simp; done) | (simp [*]; done)), H', ⟨by have := HJ13.out; first | omega | exact Nat.le_refl _⟩, ⟨by (with_reducible repeat (first | apply Kd.R_alloc | apply Kd.R_drewN | apply Kd.R_drew)); exact Kd.R_mono HO_189000.out (fun _ hk => ⟨hk.1, hk.2.1⟩)⟩, ⟨by (with_reducible repeat (first | apply Kd.R_alloc | apply Kd.R_drewN | apply Kd.R_drew)); exact Kd.R_mono HO_193000.out (fun _ hk => ⟨hk.1.1, hk.1.2⟩)⟩, ⟨by (with_reducible repeat (first | apply Kd.R_alloc | apply Kd.R_drewN | apply Kd.R_drew)); exact Kd.R_mono HO_198000.out (fun _ hk => ⟨hk.1, hk.2.1⟩)⟩, ⟨by (with_reducible repeat (first | refine blk_drewN ?_ _ | refine blk_drew ?_ | refine blk_alloc ?_ _)); exact BK179.out⟩, ⟨by (with_reducible repeat (first | refine blk_drewN ?_ _ | refine blk_drew ?_ | refine blk_alloc ?_ _)); exact BK188.out⟩, ⟨by (with_reducible repeat (first | refine blk_drewN ?_ _ | refine blk_drew ?_ | refine blk_alloc ?_ _)); exact BK192.out⟩, ⟨by (with_reducible repeat (first | refine blk_drewN ?_ _ | refine blk_drew ?_ | refine blk_alloc ?_ _)); exact BK197.out⟩, ⟨by repeat (first | (with_reducible first | exact HB.out | apply below_alloc | apply pw_below_drewN | apply below_drew1 | refine below_set ?_ GE179.out | refine below_set ?_ GE188.out | refine below_set ?_ GE192.out | refine below_set ?_ GE197.out) | exact HB.out)⟩⟩
              case rest =>
                clear HC63
                try clear c1
                try clear c2
                try clear p2
                try clear c3
                try clear c3b0
                try clear c3b1
                try clear c4
                try clear c5
                try clear c6
                try clear c6b0
                try clear c7
                try clear c8
                try clear c9
                try clear c15
                try clear c17
                try clear c19
                try clear c24
                try clear c30
                try clear c31
                try clear c32
                try clear c36
                try clear c37
                try clear c38
                try clear c41
                try clear c42
                try clear c43
                try clear c44
                try clear c46
                try clear c47
                try clear c50
                try clear c51
                try clear c52
                try clear c54
                try clear c55
                try clear c58
                try clear c61
                try clear c68
                try clear c69
                try clear c70
                try clear c73
                try clear c73b0
                try clear c75
                try clear c76
                try clear c77
                try clear c78
                try clear c80
                try clear c81
                try clear c84
                try clear c85
                try clear c86
                try clear c88
                try clear c89
                try clear hcz16_0
                try clear hcz18_0
                try clear hcz25_0
                try clear hcz26_0
                try clear hcz32_0
                try clear hcz39_0
                try clear hcz45_0
                try clear hcz48_0
                try clear hcz53_0
                try clear hcz56_0
                try clear hcz71_0
                try clear hcz79_0
                try clear hcz82_0
                try clear hcz87_0
                try clear hcz8_0
                try clear hcz90_0
                try clear hfz16_0
                try clear hfz18_0
                try clear hfz25_0
                try clear hfz26_0
                try clear hfz32_0
                try clear hfz39_0
                try clear hfz45_0
                try clear hfz48_0
                try clear hfz53_0
                try clear hfz56_0
                try clear hfz71_0
                try clear hfz79_0
                try clear hfz82_0
                try clear hfz87_0
                try clear hfz8_0
                try clear hfz90_0
                try clear p2
                obtain ⟨kq, x68_62, rfl, HA, HJ62, HO_189000, HO_193000, HO_198000, BK179, BK188, BK192, BK197, HB⟩ := hcut
                have hl193000_62 := (Kd.R_reads' HO_193000.out).1
                rw [hl193000_62] at HO_193000
                (try simp only [hl193000_62])
                (try simp only [hl193000_62] at BK179)
                (try simp only [hl193000_62] at BK188)
                (try simp only [hl193000_62] at BK192)
                (try simp only [hl193000_62] at BK197)
                (try simp only [hl193000_62] at HO_189000)
                (try simp only [hl193000_62] at HO_198000)
                cases kq with
                | zero => exact absurd HA.out (by simp [laws_FnExactAddLetter.j1])
                | succ kj62 =>
                  have H := HA.out
                  clear HA
                  simp only [laws_FnExactAddLetter.j1] at H
                  by_cases c92 : x68_62 = true
                  · subst c92
                    have H1 : (some false) = some r := by rw [if_pos rfl] at H; exact H
                    clear H
                    have H := H1
                    clear H1
                    obtain rfl := Option.some.inj H
                    go_wp2
                    go_ret
                    exact ⟨by first | rfl | (simp [errW_none, errW_some] <;> rfl) | (simp [*, errW_none, errW_some] <;> rfl), by repeat (first | (with_reducible first | exact HB.out | apply below_alloc | apply pw_below_drewN | apply below_drew1 | refine below_set ?_ GE179.out | refine below_set ?_ GE188.out | refine below_set ?_ GE192.out | refine below_set ?_ GE197.out) | exact HB.out)⟩
                  · replace c92 := Bool.eq_false_iff.mpr c92
                    subst c92
                    have H1 : ((laws_markTable.f kj62 t193 1).bind fun bt206 => ((laws_heldTable.f kj62 bt206.2 1).bind fun t208 => (if t208 < 0 then (some false) else (if t208 = bt206.1 then ((laws_toTable.f kj62 l0_0).bind fun t209 => ((impl_AddLetter.f kj62 t209 a1).bind fun bt212 => ((laws_eqTable.f kj62 bt212.1 t184).bind fun t217 => (if t217 = true then (laws_FnExactAddLetter.j2 kj62 bt206.1 (bt212.2 != t187) bt206.2) else (laws_FnExactAddLetter.j2 kj62 bt206.1 true bt206.2))))) else (some false))))) = some r := by rw [if_neg (show ¬ (false = true) by decide)] at H; exact H
                    clear H
                    have H := H1
                    clear H1
                    replace H := Option.bind_eq_some_iff.mp H
                    obtain ⟨⟨t206, t207⟩, A930, H⟩ := H
                    replace H : ((laws_heldTable.f kj62 t207 1).bind fun t208 => (if t208 < 0 then (some false) else (if t208 = t206 then ((laws_toTable.f kj62 l0_0).bind fun t209 => ((impl_AddLetter.f kj62 t209 a1).bind fun bt212 => ((laws_eqTable.f kj62 bt212.1 t184).bind fun t217 => (if t217 = true then (laws_FnExactAddLetter.j2 kj62 t206 (bt212.2 != t187) t207) else (laws_FnExactAddLetter.j2 kj62 t206 true t207))))) else (some false)))) = some r := H
                    have A93 := Aside0.mk A930
                    clear A930
                    replace H := Option.bind_eq_some_iff.mp H
                    obtain ⟨t208, A940, H⟩ := H
                    replace H : (if t208 < 0 then (some false) else (if t208 = t206 then ((laws_toTable.f kj62 l0_0).bind fun t209 => ((impl_AddLetter.f kj62 t209 a1).bind fun bt212 => ((laws_eqTable.f kj62 bt212.1 t184).bind fun t217 => (if t217 = true then (laws_FnExactAddLetter.j2 kj62 t206 (bt212.2 != t187) t207) else (laws_FnExactAddLetter.j2 kj62 t206 true t207))))) else (some false))) = some r := H
                    have A94 := Aside0.mk A940
                    clear A940
                    by_cases c95 : t208 < 0
                    · rw [if_pos c95] at H
                      have c95b0 : decide (t208 < 0) = true := decide_eq_true c95
                      clear c95
                      obtain rfl := Option.some.inj H
                      have hnb96 := NB197_179.out
                      have hnc96 := NB179_197.out
                      have hnb97 := NB197_188.out
                      have hnc97 := NB188_197.out
                      have hnb98 := NB197_192.out
                      have hnc98 := NB192_197.out
                      have hcz99_0 : wc.cell? ⟨gb197, 0, none⟩ = some (.slice Ao35 t193.length co35) := (blk_cell BK197.out 0).trans rfl
                      have hfz99_0 := blk_frozen BK197.out 0
                      go_wp2_with (first | ((with_reducible refine gate_callee (f := 32) rfl ?_); refine goesL_ (some 71) rfl rfl Tryd.func32 (by kernel_rfl) rfl #[.agg #[.slice Ao35 t193.length co35], .int .i64 1] rfl (by (try simp only [List.map_toArray, List.map_cons, List.map_nil]); first | done | rfl | (simp only [List.length_drop, List.length_take]; rfl)) ?_; (with_reducible refine (laws_markTable.calls kj62 (fun k_ => some k_ = (.slice Ao35 t193.length co35 : Value).ownBlock) (.slice Ao35 t193.length co35) t193 1 t206 t207 w _ ?side1 ?side2 A93.out).mono ?_); (case side1 => repeat (first | (with_reducible first | exact HB.out | apply below_alloc | apply pw_below_drewN | apply below_drew1 | refine below_set ?_ GE179.out | refine below_set ?_ GE188.out | refine below_set ?_ GE192.out | refine below_set ?_ GE197.out) | exact HB.out)); (case side2 => exact Kd.R_tight rfl HO_198000.out); rintro e w100 ⟨rfl, hy0, hb, hkp⟩; refine ⟨_, rfl, ?_⟩; have n0_ := Aside0.mk (Kd.R_mono (ok' := fun k_ => some k_ ≠ (.slice Ao29 t204.length co29 : Value).ownBlock ∧ some k_ ≠ (.slice Ao35 t193.length co35 : Value).ownBlock) (Kd.R_keptB (HO_189000.out) hkp (fun k_ hk_ hs_ => (hk_.2) hs_)) (fun k_ hk_ => ⟨hk_.1.1, hk_.1.2⟩)); have n1_ := Aside0.mk (Kd.R_mono (ok' := fun k_ => some k_ ≠ (.slice Ao23 t184.length co23 : Value).ownBlock ∧ some k_ ≠ (.slice Ao35 t193.length co35 : Value).ownBlock) (Kd.R_keptB (HO_193000.out) hkp (fun k_ hk_ hs_ => (hk_.2) hs_)) (fun k_ hk_ => ⟨hk_.1.1, hk_.1.2⟩)); have n2_ := Aside0.mk (Kd.R_reok rfl hy0 (fun k_ e_ => HO_198000.out.1 k_ e_)); have n3_ := Aside0.mk (blk_kept (by (with_reducible repeat (first | refine blk_drewN ?_ _ | refine blk_drew ?_ | refine blk_alloc ?_ _)); exact BK179.out) hkp (fun hs_ => (fun e_ => (Kd.R_ne HO_198000.out BK179.out (by decide)) e_) hs_)); have n4_ := Aside0.mk (blk_kept (by (with_reducible repeat (first | refine blk_drewN ?_ _ | refine blk_drew ?_ | refine blk_alloc ?_ _)); exact BK188.out) hkp (fun hs_ => (fun e_ => (Kd.R_ne HO_198000.out BK188.out (by decide)) e_) hs_)); have n5_ := Aside0.mk (blk_kept (by (with_reducible repeat (first | refine blk_drewN ?_ _ | refine blk_drew ?_ | refine blk_alloc ?_ _)); exact BK192.out) hkp (fun hs_ => (fun e_ => (Kd.R_ne HO_198000.out BK192.out (by decide)) e_) hs_)); have n6_ := Aside0.mk (blk_kept (by (with_reducible repeat (first | refine blk_drewN ?_ _ | refine blk_drew ?_ | refine blk_alloc ?_ _)); exact BK197.out) hkp (fun hs_ => (fun e_ => (Kd.R_ne HO_198000.out BK197.out (by decide)) e_) hs_)); have n7_ := Aside0.mk (hb); clear HO_189000; clear HO_193000; clear HO_198000; clear BK179; clear BK188; clear BK192; clear BK197; clear HB; have HO_189000 := n0_; have HO_193000 := n1_; have HO_198000 := n2_; have BK179 := n3_; have BK188 := n4_; have BK192 := n5_; have BK197 := n6_; have HB := n7_; clear n0_ n1_ n2_ n3_ n4_ n5_ n6_ n7_; (try clear hb); (try clear hkp); (try clear hy0); have hcz101_0 : w100.cell? ⟨gb197, 0, none⟩ = some (.slice Ao35 t193.length co35) := (blk_cell BK197.out 0).trans rfl; have hfz101_0 := blk_frozen BK197.out 0) | ((with_reducible refine gate_callee (f := 33) rfl ?_); refine goesL_ (some 74) rfl rfl Tryd.func33 (by kernel_rfl) rfl #[.agg #[.slice Ao35 t207.length co35], .int .i64 1] rfl (by (try simp only [List.map_toArray, List.map_cons, List.map_nil]); first | done | (rw [show t207.length = t193.length from (Kd.R_reads' HO_198000.out).1.symm] <;> rfl) | rfl | (simp only [List.length_drop, List.length_take]; rfl)) ?_; (with_reducible refine (laws_heldTable.calls kj62 _ _ t207 1 t208 _ ?side1 ?side2 A94.out).mono ?_); (case side1 => repeat (first | exact (Kd.R_reads' HO_198000.out).2.2 | (with_reducible refine Kd.C_alloc ?_ _) | (with_reducible refine Kd.C_drewN ?_ _) | (with_reducible refine Kd.C_drew ?_))); (case side2 => rw [show t207.length = t193.length from (Kd.R_reads' HO_198000.out).1.symm]; exact (Kd.R_reads' HO_198000.out).2.1); rintro e w102 ⟨rfl, hb⟩; refine ⟨_, rfl, ?_⟩; have n0_ := Aside0.mk (Kd.R_below (by (with_reducible repeat (first | apply Kd.R_alloc | apply Kd.R_drewN | apply Kd.R_drew)); exact HO_189000.out) hb); have n1_ := Aside0.mk (Kd.R_below (by (with_reducible repeat (first | apply Kd.R_alloc | apply Kd.R_drewN | apply Kd.R_drew)); exact HO_193000.out) hb); have n2_ := Aside0.mk (Kd.R_below (by (with_reducible repeat (first | apply Kd.R_alloc | apply Kd.R_drewN | apply Kd.R_drew)); exact HO_198000.out) hb); have n3_ := Aside0.mk (blk_below (g := gb179) (o := .cells #[.slice A0_0 l0_0.length c0_0] 24 (0, 0)) (by (with_reducible repeat (first | refine blk_drewN ?_ _ | refine blk_drew ?_ | refine blk_alloc ?_ _)); exact BK179.out) hb); have n4_ := Aside0.mk (blk_below (g := gb188) (o := .cells #[.slice Ao23 t184.length co23] 27 (0, 0)) (by (with_reducible repeat (first | refine blk_drewN ?_ _ | refine blk_drew ?_ | refine blk_alloc ?_ _)); exact BK188.out) hb); have n5_ := Aside0.mk (blk_below (g := gb192) (o := .cells #[.slice Ao29 t204.length co29] 27 (0, 0)) (by (with_reducible repeat (first | refine blk_drewN ?_ _ | refine blk_drew ?_ | refine blk_alloc ?_ _)); exact BK192.out) hb); have n6_ := Aside0.mk (blk_below (g := gb197) (o := .cells #[.slice Ao35 t193.length co35] 27 (0, 0)) (by (with_reducible repeat (first | refine blk_drewN ?_ _ | refine blk_drew ?_ | refine blk_alloc ?_ _)); exact BK197.out) hb); have n7_ := Aside0.mk (below_step (by repeat (first | (with_reducible first | exact HB.out | apply below_alloc | apply pw_below_drewN | apply below_drew1 | refine below_set ?_ GE179.out | refine below_set ?_ GE188.out | refine below_set ?_ GE192.out | refine below_set ?_ GE197.out) | exact HB.out)) hb); clear HO_189000; clear HO_193000; clear HO_198000; clear BK179; clear BK188; clear BK192; clear BK197; clear HB; have HO_189000 := n0_; have HO_193000 := n1_; have HO_198000 := n2_; have BK179 := n3_; have BK188 := n4_; have BK192 := n5_; have BK197 := n6_; have HB := n7_; clear n0_ n1_ n2_ n3_ n4_ n5_ n6_ n7_; (try clear hb); (try clear hb2); (try clear hk); (try clear hi)))
                      go_ret
                      exact ⟨by first | rfl | (simp [errW_none, errW_some] <;> rfl) | (simp [*, errW_none, errW_some] <;> rfl), by repeat (first | (with_reducible first | exact HB.out | apply below_alloc | apply pw_below_drewN | apply below_drew1 | refine below_set ?_ GE179.out | refine below_set ?_ GE188.out | refine below_set ?_ GE192.out | refine below_set ?_ GE197.out) | exact HB.out)⟩
                    · rw [if_neg c95] at H
                      have c95b0 : decide (t208 < 0) = false := decide_eq_false c95
                      clear c95
                      by_cases c103 : t208 = t206
                      · rw [if_pos c103] at H
                        have c103b0 : (t208 == t206) = true := beq_iff_eq.mpr c103
                        have c103b1 : (t208 != t206) = false := bne_eq_false_iff_eq.mpr c103
                        clear c103
                        replace H := Option.bind_eq_some_iff.mp H
                        obtain ⟨t209, A1040, H⟩ := H
                        replace H : ((impl_AddLetter.f kj62 t209 a1).bind fun bt212 => ((laws_eqTable.f kj62 bt212.1 t184).bind fun t217 => (if t217 = true then (laws_FnExactAddLetter.j2 kj62 t206 (bt212.2 != t187) t207) else (laws_FnExactAddLetter.j2 kj62 t206 true t207)))) = some r := H
                        have A104 := Aside0.mk A1040
                        clear A1040
                        replace H := Option.bind_eq_some_iff.mp H
                        obtain ⟨⟨t212, t215⟩, A1050, H⟩ := H
                        replace H : ((laws_eqTable.f kj62 t212 t184).bind fun t217 => (if t217 = true then (laws_FnExactAddLetter.j2 kj62 t206 (t215 != t187) t207) else (laws_FnExactAddLetter.j2 kj62 t206 true t207))) = some r := H
                        have A105 := Aside0.mk A1050
                        clear A1050
                        have HC106 := Aside0.mk H
                        clear H
                        have hnb107 := NB197_179.out
                        have hnc107 := NB179_197.out
                        have hnb108 := NB197_188.out
                        have hnc108 := NB188_197.out
                        have hnb109 := NB197_192.out
                        have hnc109 := NB192_197.out
                        have hcz110_0 : wc.cell? ⟨gb197, 0, none⟩ = some (.slice Ao35 t193.length co35) := (blk_cell BK197.out 0).trans rfl
                        have hfz110_0 := blk_frozen BK197.out 0
                        go_upto_region 27 with (first | ((with_reducible refine gate_callee (f := 32) rfl ?_); refine goesL_ (some 71) rfl rfl Tryd.func32 (by kernel_rfl) rfl #[.agg #[.slice Ao35 t193.length co35], .int .i64 1] rfl (by (try simp only [List.map_toArray, List.map_cons, List.map_nil]); first | done | rfl | (simp only [List.length_drop, List.length_take]; rfl)) ?_; (with_reducible refine (laws_markTable.calls kj62 (fun k_ => some k_ = (.slice Ao35 t193.length co35 : Value).ownBlock) (.slice Ao35 t193.length co35) t193 1 t206 t207 w _ ?side1 ?side2 A93.out).mono ?_); (case side1 => repeat (first | (with_reducible first | exact HB.out | apply below_alloc | apply pw_below_drewN | apply below_drew1 | refine below_set ?_ GE179.out | refine below_set ?_ GE188.out | refine below_set ?_ GE192.out | refine below_set ?_ GE197.out) | exact HB.out)); (case side2 => exact Kd.R_tight rfl HO_198000.out); rintro e w111 ⟨rfl, hy0, hb, hkp⟩; refine ⟨_, rfl, ?_⟩; have n0_ := Aside0.mk (Kd.R_mono (ok' := fun k_ => some k_ ≠ (.slice Ao29 t204.length co29 : Value).ownBlock ∧ some k_ ≠ (.slice Ao35 t193.length co35 : Value).ownBlock) (Kd.R_keptB (HO_189000.out) hkp (fun k_ hk_ hs_ => (hk_.2) hs_)) (fun k_ hk_ => ⟨hk_.1.1, hk_.1.2⟩)); have n1_ := Aside0.mk (Kd.R_mono (ok' := fun k_ => some k_ ≠ (.slice Ao23 t184.length co23 : Value).ownBlock ∧ some k_ ≠ (.slice Ao35 t193.length co35 : Value).ownBlock) (Kd.R_keptB (HO_193000.out) hkp (fun k_ hk_ hs_ => (hk_.2) hs_)) (fun k_ hk_ => ⟨hk_.1.1, hk_.1.2⟩)); have n2_ := Aside0.mk (Kd.R_reok rfl hy0 (fun k_ e_ => HO_198000.out.1 k_ e_)); have n3_ := Aside0.mk (blk_kept (by (with_reducible repeat (first | refine blk_drewN ?_ _ | refine blk_drew ?_ | refine blk_alloc ?_ _)); exact BK179.out) hkp (fun hs_ => (fun e_ => (Kd.R_ne HO_198000.out BK179.out (by decide)) e_) hs_)); have n4_ := Aside0.mk (blk_kept (by (with_reducible repeat (first | refine blk_drewN ?_ _ | refine blk_drew ?_ | refine blk_alloc ?_ _)); exact BK188.out) hkp (fun hs_ => (fun e_ => (Kd.R_ne HO_198000.out BK188.out (by decide)) e_) hs_)); have n5_ := Aside0.mk (blk_kept (by (with_reducible repeat (first | refine blk_drewN ?_ _ | refine blk_drew ?_ | refine blk_alloc ?_ _)); exact BK192.out) hkp (fun hs_ => (fun e_ => (Kd.R_ne HO_198000.out BK192.out (by decide)) e_) hs_)); have n6_ := Aside0.mk (blk_kept (by (with_reducible repeat (first | refine blk_drewN ?_ _ | refine blk_drew ?_ | refine blk_alloc ?_ _)); exact BK197.out) hkp (fun hs_ => (fun e_ => (Kd.R_ne HO_198000.out BK197.out (by decide)) e_) hs_)); have n7_ := Aside0.mk (hb); clear HO_189000; clear HO_193000; clear HO_198000; clear BK179; clear BK188; clear BK192; clear BK197; clear HB; have HO_189000 := n0_; have HO_193000 := n1_; have HO_198000 := n2_; have BK179 := n3_; have BK188 := n4_; have BK192 := n5_; have BK197 := n6_; have HB := n7_; clear n0_ n1_ n2_ n3_ n4_ n5_ n6_ n7_; (try clear hb); (try clear hkp); (try clear hy0); have hcz112_0 : w111.cell? ⟨gb197, 0, none⟩ = some (.slice Ao35 t193.length co35) := (blk_cell BK197.out 0).trans rfl; have hfz112_0 := blk_frozen BK197.out 0) | ((with_reducible refine gate_callee (f := 33) rfl ?_); refine goesL_ (some 74) rfl rfl Tryd.func33 (by kernel_rfl) rfl #[.agg #[.slice Ao35 t207.length co35], .int .i64 1] rfl (by (try simp only [List.map_toArray, List.map_cons, List.map_nil]); first | done | (rw [show t207.length = t193.length from (Kd.R_reads' HO_198000.out).1.symm] <;> rfl) | rfl | (simp only [List.length_drop, List.length_take]; rfl)) ?_; (with_reducible refine (laws_heldTable.calls kj62 _ _ t207 1 t208 _ ?side1 ?side2 A94.out).mono ?_); (case side1 => repeat (first | exact (Kd.R_reads' HO_198000.out).2.2 | (with_reducible refine Kd.C_alloc ?_ _) | (with_reducible refine Kd.C_drewN ?_ _) | (with_reducible refine Kd.C_drew ?_))); (case side2 => rw [show t207.length = t193.length from (Kd.R_reads' HO_198000.out).1.symm]; exact (Kd.R_reads' HO_198000.out).2.1); rintro e w113 ⟨rfl, hb⟩; refine ⟨_, rfl, ?_⟩; have n0_ := Aside0.mk (Kd.R_below (by (with_reducible repeat (first | apply Kd.R_alloc | apply Kd.R_drewN | apply Kd.R_drew)); exact HO_189000.out) hb); have n1_ := Aside0.mk (Kd.R_below (by (with_reducible repeat (first | apply Kd.R_alloc | apply Kd.R_drewN | apply Kd.R_drew)); exact HO_193000.out) hb); have n2_ := Aside0.mk (Kd.R_below (by (with_reducible repeat (first | apply Kd.R_alloc | apply Kd.R_drewN | apply Kd.R_drew)); exact HO_198000.out) hb); have n3_ := Aside0.mk (blk_below (g := gb179) (o := .cells #[.slice A0_0 l0_0.length c0_0] 24 (0, 0)) (by (with_reducible repeat (first | refine blk_drewN ?_ _ | refine blk_drew ?_ | refine blk_alloc ?_ _)); exact BK179.out) hb); have n4_ := Aside0.mk (blk_below (g := gb188) (o := .cells #[.slice Ao23 t184.length co23] 27 (0, 0)) (by (with_reducible repeat (first | refine blk_drewN ?_ _ | refine blk_drew ?_ | refine blk_alloc ?_ _)); exact BK188.out) hb); have n5_ := Aside0.mk (blk_below (g := gb192) (o := .cells #[.slice Ao29 t204.length co29] 27 (0, 0)) (by (with_reducible repeat (first | refine blk_drewN ?_ _ | refine blk_drew ?_ | refine blk_alloc ?_ _)); exact BK192.out) hb); have n6_ := Aside0.mk (blk_below (g := gb197) (o := .cells #[.slice Ao35 t193.length co35] 27 (0, 0)) (by (with_reducible repeat (first | refine blk_drewN ?_ _ | refine blk_drew ?_ | refine blk_alloc ?_ _)); exact BK197.out) hb); have n7_ := Aside0.mk (below_step (by repeat (first | (with_reducible first | exact HB.out | apply below_alloc | apply pw_below_drewN | apply below_drew1 | refine below_set ?_ GE179.out | refine below_set ?_ GE188.out | refine below_set ?_ GE192.out | refine below_set ?_ GE197.out) | exact HB.out)) hb); clear HO_189000; clear HO_193000; clear HO_198000; clear BK179; clear BK188; clear BK192; clear BK197; clear HB; have HO_189000 := n0_; have HO_193000 := n1_; have HO_198000 := n2_; have BK179 := n3_; have BK188 := n4_; have BK192 := n5_; have BK197 := n6_; have HB := n7_; clear n0_ n1_ n2_ n3_ n4_ n5_ n6_ n7_; (try clear hb); (try clear hb2); (try clear hk); (try clear hi); have hnb114 := NB179_188.out; have hnc114 := NB188_179.out; have hnb115 := NB179_192.out; have hnc115 := NB192_179.out; have hcz116_0 : w113.cell? ⟨gb179, 0, none⟩ = some (.slice A0_0 l0_0.length c0_0) := (blk_cell BK179.out 0).trans rfl; have hfz116_0 := blk_frozen BK179.out 0) | ((with_reducible refine gate_callee (f := 17) rfl ?_); refine goesL_ (some 82) rfl rfl Tryd.func17 (by kernel_rfl) rfl #[.agg #[.slice A0_0 l0_0.length c0_0]] rfl (by (try simp only [List.map_toArray, List.map_cons, List.map_nil]); first | done | rfl | (simp only [List.length_drop, List.length_take]; rfl)) ?_; (with_reducible refine (laws_toTable.calls kj62 _ _ l0_0 t209 _ ?side1 ?side2 A104.out).mono ?_); (case side1 => repeat (first | exact (Kd.C_below HR0_0.out HB.out) | (with_reducible refine Kd.C_alloc ?_ _) | (with_reducible refine Kd.C_drewN ?_ _) | (with_reducible refine Kd.C_drew ?_))); (case side2 => exact HC0_0.out); rintro e w117 ⟨v210, rfl, ho0, hb⟩; refine ⟨_, rfl, ?_⟩; have n0_ := Aside0.mk (Kd.R_elder' (by (with_reducible repeat (first | apply Kd.R_alloc | apply Kd.R_drewN | apply Kd.R_drew)); exact HO_189000.out) (Kd.R_base ho0) hb); have n1_ := Aside0.mk (Kd.R_elder' (by (with_reducible repeat (first | apply Kd.R_alloc | apply Kd.R_drewN | apply Kd.R_drew)); exact HO_193000.out) (Kd.R_base ho0) hb); have n2_ := Aside0.mk (Kd.R_elder' (by (with_reducible repeat (first | apply Kd.R_alloc | apply Kd.R_drewN | apply Kd.R_drew)); exact HO_198000.out) (Kd.R_base ho0) hb); have n3_ := Aside0.mk (Kd.R_lower (Kd.R_new' (Kd.R_new' (Kd.R_new' ho0 (Kd.R_lt (by (with_reducible repeat (first | apply Kd.R_alloc | apply Kd.R_drewN | apply Kd.R_drew)); exact HO_189000.out))) (Kd.R_lt (by (with_reducible repeat (first | apply Kd.R_alloc | apply Kd.R_drewN | apply Kd.R_drew)); exact HO_193000.out))) (Kd.R_lt (by (with_reducible repeat (first | apply Kd.R_alloc | apply Kd.R_drewN | apply Kd.R_drew)); exact HO_198000.out))) (below_size (by repeat (first | (with_reducible first | exact HB.out | apply below_alloc | apply pw_below_drewN | apply below_drew1 | refine below_set ?_ GE179.out | refine below_set ?_ GE188.out | refine below_set ?_ GE192.out | refine below_set ?_ GE197.out) | exact HB.out)))); have n4_ := Aside0.mk (blk_below (g := gb179) (o := .cells #[.slice A0_0 l0_0.length c0_0] 24 (0, 0)) (by (with_reducible repeat (first | refine blk_drewN ?_ _ | refine blk_drew ?_ | refine blk_alloc ?_ _)); exact BK179.out) hb); have n5_ := Aside0.mk (blk_below (g := gb188) (o := .cells #[.slice Ao23 t184.length co23] 27 (0, 0)) (by (with_reducible repeat (first | refine blk_drewN ?_ _ | refine blk_drew ?_ | refine blk_alloc ?_ _)); exact BK188.out) hb); have n6_ := Aside0.mk (blk_below (g := gb192) (o := .cells #[.slice Ao29 t204.length co29] 27 (0, 0)) (by (with_reducible repeat (first | refine blk_drewN ?_ _ | refine blk_drew ?_ | refine blk_alloc ?_ _)); exact BK192.out) hb); have n7_ := Aside0.mk (blk_below (g := gb197) (o := .cells #[.slice Ao35 t193.length co35] 27 (0, 0)) (by (with_reducible repeat (first | refine blk_drewN ?_ _ | refine blk_drew ?_ | refine blk_alloc ?_ _)); exact BK197.out) hb); have n8_ := Aside0.mk (below_step (by repeat (first | (with_reducible first | exact HB.out | apply below_alloc | apply pw_below_drewN | apply below_drew1 | refine below_set ?_ GE179.out | refine below_set ?_ GE188.out | refine below_set ?_ GE192.out | refine below_set ?_ GE197.out) | exact HB.out)) hb); clear HO_189000; clear HO_193000; clear HO_198000; clear BK179; clear BK188; clear BK192; clear BK197; clear HB; have HO_189000 := n0_; have HO_193000 := n1_; have HO_198000 := n2_; have HO211 := n3_; have BK179 := n4_; have BK188 := n5_; have BK192 := n6_; have BK197 := n7_; have HB := n8_; clear n0_ n1_ n2_ n3_ n4_ n5_ n6_ n7_ n8_; (try clear hb); (try clear hb2); (try clear hk); (try clear hi); (try clear ho0); obtain ⟨Ao118, co118, eo118⟩ := Kd.R_slice HO211.out; subst eo118) | ((with_reducible refine gate_callee (f := 31) rfl ?_); refine goesL_ (some 84) rfl rfl Tryd.func31 (by kernel_rfl) rfl #[.agg #[.slice Ao118 t209.length co118], .string a1] rfl (by (try simp only [List.map_toArray, List.map_cons, List.map_nil]); first | done | rfl | (simp only [List.length_drop, List.length_take]; rfl)) ?_; (with_reducible refine (impl_AddLetter.calls kj62 _ _ t209 a1 t212 t215 _ ?side1 ?side2 A105.out).mono ?_); (case side1 => repeat (first | exact (Kd.R_reads' HO211.out).2.2 | (with_reducible refine Kd.C_alloc ?_ _) | (with_reducible refine Kd.C_drewN ?_ _) | (with_reducible refine Kd.C_drew ?_))); (case side2 => exact (Kd.R_reads' HO211.out).2.1); rintro e w119 ⟨v213, rfl, ho0, hb⟩; refine ⟨_, rfl, ?_⟩; have n0_ := Aside0.mk (Kd.R_elder' (by (with_reducible repeat (first | apply Kd.R_alloc | apply Kd.R_drewN | apply Kd.R_drew)); exact HO_189000.out) (Kd.R_base ho0) hb); have n1_ := Aside0.mk (Kd.R_elder' (by (with_reducible repeat (first | apply Kd.R_alloc | apply Kd.R_drewN | apply Kd.R_drew)); exact HO_193000.out) (Kd.R_base ho0) hb); have n2_ := Aside0.mk (Kd.R_elder' (by (with_reducible repeat (first | apply Kd.R_alloc | apply Kd.R_drewN | apply Kd.R_drew)); exact HO_198000.out) (Kd.R_base ho0) hb); have n3_ := Aside0.mk (Kd.R_elder' (by (with_reducible repeat (first | apply Kd.R_alloc | apply Kd.R_drewN | apply Kd.R_drew)); exact HO211.out) (Kd.R_base ho0) hb); have n4_ := Aside0.mk (Kd.R_lower (Kd.R_new' (Kd.R_new' (Kd.R_new' (Kd.R_new' ho0 (Kd.R_lt (by (with_reducible repeat (first | apply Kd.R_alloc | apply Kd.R_drewN | apply Kd.R_drew)); exact HO_189000.out))) (Kd.R_lt (by (with_reducible repeat (first | apply Kd.R_alloc | apply Kd.R_drewN | apply Kd.R_drew)); exact HO_193000.out))) (Kd.R_lt (by (with_reducible repeat (first | apply Kd.R_alloc | apply Kd.R_drewN | apply Kd.R_drew)); exact HO_198000.out))) (Kd.R_lt (by (with_reducible repeat (first | apply Kd.R_alloc | apply Kd.R_drewN | apply Kd.R_drew)); exact HO211.out))) (below_size (by repeat (first | (with_reducible first | exact HB.out | apply below_alloc | apply pw_below_drewN | apply below_drew1 | refine below_set ?_ GE179.out | refine below_set ?_ GE188.out | refine below_set ?_ GE192.out | refine below_set ?_ GE197.out) | exact HB.out)))); have n5_ := Aside0.mk (blk_below (g := gb179) (o := .cells #[.slice A0_0 l0_0.length c0_0] 24 (0, 0)) (by (with_reducible repeat (first | refine blk_drewN ?_ _ | refine blk_drew ?_ | refine blk_alloc ?_ _)); exact BK179.out) hb); have n6_ := Aside0.mk (blk_below (g := gb188) (o := .cells #[.slice Ao23 t184.length co23] 27 (0, 0)) (by (with_reducible repeat (first | refine blk_drewN ?_ _ | refine blk_drew ?_ | refine blk_alloc ?_ _)); exact BK188.out) hb); have n7_ := Aside0.mk (blk_below (g := gb192) (o := .cells #[.slice Ao29 t204.length co29] 27 (0, 0)) (by (with_reducible repeat (first | refine blk_drewN ?_ _ | refine blk_drew ?_ | refine blk_alloc ?_ _)); exact BK192.out) hb); have n8_ := Aside0.mk (blk_below (g := gb197) (o := .cells #[.slice Ao35 t193.length co35] 27 (0, 0)) (by (with_reducible repeat (first | refine blk_drewN ?_ _ | refine blk_drew ?_ | refine blk_alloc ?_ _)); exact BK197.out) hb); have n9_ := Aside0.mk (below_step (by repeat (first | (with_reducible first | exact HB.out | apply below_alloc | apply pw_below_drewN | apply below_drew1 | refine below_set ?_ GE179.out | refine below_set ?_ GE188.out | refine below_set ?_ GE192.out | refine below_set ?_ GE197.out) | exact HB.out)) hb); clear HO_189000; clear HO_193000; clear HO_198000; clear HO211; clear BK179; clear BK188; clear BK192; clear BK197; clear HB; have HO_189000 := n0_; have HO_193000 := n1_; have HO_198000 := n2_; have HO211 := n3_; have HO214 := n4_; have BK179 := n5_; have BK188 := n6_; have BK192 := n7_; have BK197 := n8_; have HB := n9_; clear n0_ n1_ n2_ n3_ n4_ n5_ n6_ n7_ n8_ n9_; (try clear hb); (try clear hb2); (try clear hk); (try clear hi); (try clear ho0)) | ((with_reducible refine gate_dst (N := 14) rfl ?_); refine box_event ?hg (N := 14) ?hd (cs := #[.slice none 0 0]) (t := 27) ?hr ?_; (case hd => rfl); (case hg => rfl); (case hr => first | (go_simp; done) | (go_simp; rfl)); intro gb216 hg w120 hbox hb; have n0_ := Aside0.mk (Kd.R_below (by (with_reducible repeat (first | apply Kd.R_alloc | apply Kd.R_drewN | apply Kd.R_drew)); exact HO_189000.out) hb); have n1_ := Aside0.mk (Kd.R_below (by (with_reducible repeat (first | apply Kd.R_alloc | apply Kd.R_drewN | apply Kd.R_drew)); exact HO_193000.out) hb); have n2_ := Aside0.mk (Kd.R_below (by (with_reducible repeat (first | apply Kd.R_alloc | apply Kd.R_drewN | apply Kd.R_drew)); exact HO_198000.out) hb); have n3_ := Aside0.mk (Kd.R_below (by (with_reducible repeat (first | apply Kd.R_alloc | apply Kd.R_drewN | apply Kd.R_drew)); exact HO211.out) hb); have n4_ := Aside0.mk (Kd.R_below (by (with_reducible repeat (first | apply Kd.R_alloc | apply Kd.R_drewN | apply Kd.R_drew)); exact HO214.out) hb); have n5_ := Aside0.mk (blk_below (g := gb179) (o := .cells #[.slice A0_0 l0_0.length c0_0] 24 (0, 0)) (by (with_reducible repeat (first | refine blk_drewN ?_ _ | refine blk_drew ?_ | refine blk_alloc ?_ _)); exact BK179.out) hb); have n6_ := Aside0.mk (blk_below (g := gb188) (o := .cells #[.slice Ao23 t184.length co23] 27 (0, 0)) (by (with_reducible repeat (first | refine blk_drewN ?_ _ | refine blk_drew ?_ | refine blk_alloc ?_ _)); exact BK188.out) hb); have n7_ := Aside0.mk (blk_below (g := gb192) (o := .cells #[.slice Ao29 t204.length co29] 27 (0, 0)) (by (with_reducible repeat (first | refine blk_drewN ?_ _ | refine blk_drew ?_ | refine blk_alloc ?_ _)); exact BK192.out) hb); have n8_ := Aside0.mk (blk_below (g := gb197) (o := .cells #[.slice Ao35 t193.length co35] 27 (0, 0)) (by (with_reducible repeat (first | refine blk_drewN ?_ _ | refine blk_drew ?_ | refine blk_alloc ?_ _)); exact BK197.out) hb); have n9_ := Aside0.mk (below_step (by repeat (first | (with_reducible first | exact HB.out | apply below_alloc | apply pw_below_drewN | apply below_drew1 | refine below_set ?_ GE179.out | refine below_set ?_ GE188.out | refine below_set ?_ GE192.out | refine below_set ?_ GE197.out) | exact HB.out)) hb); have n10_ := Aside0.mk (hbox); have n11_ := Aside0.mk ((by rw [hg]; exact (below_size (by repeat (first | (with_reducible first | exact HB.out | apply below_alloc | apply pw_below_drewN | apply below_drew1 | refine below_set ?_ GE179.out | refine below_set ?_ GE188.out | refine below_set ?_ GE192.out | refine below_set ?_ GE197.out) | exact HB.out))) : w.heap.size ≤ gb216)); have n12_ := Aside0.mk ((by rw [hg]; exact (below_size (by repeat (first | (with_reducible first | exact HB.out | apply below_alloc | apply pw_below_drewN | apply below_drew1 | refine below_set ?_ GE179.out | refine below_set ?_ GE188.out | refine below_set ?_ GE192.out | refine below_set ?_ GE197.out) | exact HB.out))) : w.heap.size ≤ gb216)); have n13_ := Aside0.mk ((by rw [hg]; exact Nat.ne_of_lt (blk_lt (g := gb179) (o := .cells #[.slice A0_0 l0_0.length c0_0] 24 (0, 0)) (by (with_reducible repeat (first | refine blk_drewN ?_ _ | refine blk_drew ?_ | refine blk_alloc ?_ _)); exact BK179.out)) : gb179 ≠ gb216)); have n14_ := Aside0.mk ((by rw [hg]; exact Nat.ne_of_gt (blk_lt (g := gb179) (o := .cells #[.slice A0_0 l0_0.length c0_0] 24 (0, 0)) (by (with_reducible repeat (first | refine blk_drewN ?_ _ | refine blk_drew ?_ | refine blk_alloc ?_ _)); exact BK179.out)) : gb216 ≠ gb179)); have n15_ := Aside0.mk ((by rw [hg]; exact Nat.ne_of_lt (blk_lt (g := gb188) (o := .cells #[.slice Ao23 t184.length co23] 27 (0, 0)) (by (with_reducible repeat (first | refine blk_drewN ?_ _ | refine blk_drew ?_ | refine blk_alloc ?_ _)); exact BK188.out)) : gb188 ≠ gb216)); have n16_ := Aside0.mk ((by rw [hg]; exact Nat.ne_of_gt (blk_lt (g := gb188) (o := .cells #[.slice Ao23 t184.length co23] 27 (0, 0)) (by (with_reducible repeat (first | refine blk_drewN ?_ _ | refine blk_drew ?_ | refine blk_alloc ?_ _)); exact BK188.out)) : gb216 ≠ gb188)); have n17_ := Aside0.mk ((by rw [hg]; exact Nat.ne_of_lt (blk_lt (g := gb192) (o := .cells #[.slice Ao29 t204.length co29] 27 (0, 0)) (by (with_reducible repeat (first | refine blk_drewN ?_ _ | refine blk_drew ?_ | refine blk_alloc ?_ _)); exact BK192.out)) : gb192 ≠ gb216)); have n18_ := Aside0.mk ((by rw [hg]; exact Nat.ne_of_gt (blk_lt (g := gb192) (o := .cells #[.slice Ao29 t204.length co29] 27 (0, 0)) (by (with_reducible repeat (first | refine blk_drewN ?_ _ | refine blk_drew ?_ | refine blk_alloc ?_ _)); exact BK192.out)) : gb216 ≠ gb192)); have n19_ := Aside0.mk ((by rw [hg]; exact Nat.ne_of_lt (blk_lt (g := gb197) (o := .cells #[.slice Ao35 t193.length co35] 27 (0, 0)) (by (with_reducible repeat (first | refine blk_drewN ?_ _ | refine blk_drew ?_ | refine blk_alloc ?_ _)); exact BK197.out)) : gb197 ≠ gb216)); have n20_ := Aside0.mk ((by rw [hg]; exact Nat.ne_of_gt (blk_lt (g := gb197) (o := .cells #[.slice Ao35 t193.length co35] 27 (0, 0)) (by (with_reducible repeat (first | refine blk_drewN ?_ _ | refine blk_drew ?_ | refine blk_alloc ?_ _)); exact BK197.out)) : gb216 ≠ gb197)); clear HO_189000; clear HO_193000; clear HO_198000; clear HO211; clear HO214; clear BK179; clear BK188; clear BK192; clear BK197; clear HB; have HO_189000 := n0_; have HO_193000 := n1_; have HO_198000 := n2_; have HO211 := n3_; have HO214 := n4_; have BK179 := n5_; have BK188 := n6_; have BK192 := n7_; have BK197 := n8_; have HB := n9_; have BK216 := n10_; have GW216 := n11_; have GE216 := n12_; have NB179_216 := n13_; have NB216_179 := n14_; have NB188_216 := n15_; have NB216_188 := n16_; have NB192_216 := n17_; have NB216_192 := n18_; have NB197_216 := n19_; have NB216_197 := n20_; clear n0_ n1_ n2_ n3_ n4_ n5_ n6_ n7_ n8_ n9_ n10_ n11_ n12_ n13_ n14_ n15_ n16_ n17_ n18_ n19_ n20_; clear hb hbox hg; obtain ⟨Ao121, co121, eo121⟩ := Kd.R_slice HO214.out; subst eo121; have hnb122 := NB216_179.out; have hnc122 := NB179_216.out; have hnb123 := NB216_188.out; have hnc123 := NB188_216.out; have hnb124 := NB216_192.out; have hnc124 := NB192_216.out; have hnb125 := NB216_197.out; have hnc125 := NB197_216.out; have hcz126_0 : w120.cell? ⟨gb216, 0, none⟩ = some (.slice none 0 0) := (blk_cell BK216.out 0).trans rfl; have hfz126_0 := blk_frozen BK216.out 0))
                        (try simp only [Act.put, List.setIfInBounds_toArray, List.set_cons_zero, List.set_cons_succ])
                        go_cut [95] (fun v95 wc => ∃ (kq : Nat) (x95_105 : Bool), v95 = .bool x95_105 ∧ Aside0 (laws_FnExactAddLetter.j2 kq t206 x95_105 t207 = some r) ∧ Aside0 (kq ≤ kj62) ∧ Aside0 (Kd.R Kd.string 9 wc w.heap.size (fun k_ => some k_ ≠ ((.slice Ao29 t204.length co29) : Value).ownBlock ∧ some k_ ≠ ((.slice Ao35 t193.length co35) : Value).ownBlock ∧ some k_ ≠ ((.slice Ao121 t212.length co121) : Value).ownBlock) (.slice Ao23 t184.length co23) t184) ∧ Aside0 (Kd.R Kd.string 9 wc w.heap.size (fun k_ => some k_ ≠ ((.slice Ao23 t184.length co23) : Value).ownBlock ∧ some k_ ≠ ((.slice Ao35 t193.length co35) : Value).ownBlock ∧ some k_ ≠ ((.slice Ao121 t212.length co121) : Value).ownBlock) (.slice Ao29 t204.length co29) t204) ∧ Aside0 (Kd.R Kd.string 9 wc w.heap.size (fun k_ => some k_ ≠ ((.slice Ao23 t184.length co23) : Value).ownBlock ∧ some k_ ≠ ((.slice Ao29 t204.length co29) : Value).ownBlock ∧ some k_ ≠ ((.slice Ao121 t212.length co121) : Value).ownBlock) (.slice Ao35 t193.length co35) t207) ∧ Aside0 (Kd.R Kd.string 9 wc w.heap.size (fun k_ => some k_ ≠ ((.slice Ao23 t184.length co23) : Value).ownBlock ∧ some k_ ≠ ((.slice Ao29 t204.length co29) : Value).ownBlock ∧ some k_ ≠ ((.slice Ao35 t193.length co35) : Value).ownBlock) (.slice Ao121 t212.length co121) t212) ∧ Aside0 (wc.heap[gb179]? = some (.cells #[(.slice A0_0 l0_0.length c0_0)] 24 (0, 0))) ∧ Aside0 (wc.heap[gb188]? = some (.cells #[(.slice Ao23 t184.length co23)] 27 (0, 0))) ∧ Aside0 (wc.heap[gb192]? = some (.cells #[(.slice Ao29 t204.length co29)] 27 (0, 0))) ∧ Aside0 (wc.heap[gb197]? = some (.cells #[(.slice Ao35 t193.length co35)] 27 (0, 0))) ∧ Aside0 (wc.heap[gb216]? = some (.cells #[(.slice Ao121 t212.length co121)] 27 (0, 0))) ∧ Aside0 (Below w.heap.size w wc))
                        case first =>
                          have H := HC106.out
                          clear HC106
                          replace H := Option.bind_eq_some_iff.mp H
                          obtain ⟨t217, A1270, H⟩ := H
                          replace H : (if t217 = true then (laws_FnExactAddLetter.j2 kj62 t206 (t215 != t187) t207) else (laws_FnExactAddLetter.j2 kj62 t206 true t207)) = some r := H
                          have A127 := Aside0.mk A1270
                          clear A1270
                          by_cases c128 : t217 = true
                          · subst c128
                            have H1 : (laws_FnExactAddLetter.j2 kj62 t206 (t215 != t187) t207) = some r := by rw [if_pos rfl] at H; exact H
                            clear H
                            have H := H1
                            clear H1
                            have H' := Aside0.mk H
                            clear H
                            have hnb129 := NB216_179.out
                            have hnc129 := NB179_216.out
                            have hnb130 := NB216_188.out
                            have hnc130 := NB188_216.out
                            have hnb131 := NB216_192.out
                            have hnc131 := NB192_216.out
                            have hnb132 := NB216_197.out
                            have hnc132 := NB197_216.out
                            have hcz133_0 : w120.cell? ⟨gb216, 0, none⟩ = some (.slice none 0 0) := (blk_cell BK216.out 0).trans rfl
                            have hfz133_0 := blk_frozen BK216.out 0
                            have hnb134 := NB188_179.out
                            have hnc134 := NB179_188.out
                            have hnb135 := NB188_192.out
                            have hnc135 := NB192_188.out
                            have hnb136 := NB188_197.out
                            have hnc136 := NB197_188.out
                            have hcz137_0 : w120.cell? ⟨gb188, 0, none⟩ = some (.slice Ao23 t184.length co23) := (blk_cell BK188.out 0).trans rfl
                            have hfz137_0 := blk_frozen BK188.out 0
                            go_wp2_with (first | ((with_reducible refine gate_callee (f := 19) rfl ?_); refine goesL_ (some 89) rfl rfl Tryd.func19 (by kernel_rfl) rfl #[.agg #[.slice Ao121 t212.length co121], .agg #[.slice Ao23 t184.length co23]] rfl (by (try simp only [List.map_toArray, List.map_cons, List.map_nil]); first | done | rfl | (simp only [List.length_drop, List.length_take]; rfl)) ?_; (with_reducible refine (laws_eqTable.calls kj62 _ _ t212 _ _ t184 true _ ?side1 ?side2 ?side3 ?side4 A127.out).mono ?_); (case side1 => refine (Kd.R_reads' (e := 9) (base := w.heap.size) (ok := fun k_ => ((((True ∧ some k_ ≠ (.slice Ao23 t184.length co23 : Value).ownBlock) ∧ some k_ ≠ (.slice Ao29 t204.length co29 : Value).ownBlock) ∧ some k_ ≠ (.slice Ao35 t193.length co35 : Value).ownBlock) ∧ some k_ ≠ (.slice Ao118 t209.length co118 : Value).ownBlock)) (n := t212.length) (c := co121) ?_).2.2; exact (by (with_reducible repeat (first | apply Kd.R_alloc | apply Kd.R_drewN | apply Kd.R_drew)); exact (Kd.R_mono (Kd.R_far (p := ⟨gb216, 0, none⟩) (Kd.R_types HO214.out BK216.out (by decide)) (fun _ hk => hk.2) (.slice Ao121 t212.length co121)) (fun _ h_ => h_.1)))); (case side2 => exact (Kd.R_reads' HO214.out).2.1); (case side3 => refine (Kd.R_reads' (e := 9) (base := w.heap.size) (ok := fun k_ => (((some k_ ≠ (.slice Ao29 t204.length co29 : Value).ownBlock ∧ some k_ ≠ (.slice Ao35 t193.length co35 : Value).ownBlock) ∧ some k_ ≠ (.slice Ao118 t209.length co118 : Value).ownBlock) ∧ some k_ ≠ (.slice Ao121 t212.length co121 : Value).ownBlock)) (n := t184.length) (c := co23) ?_).2.2; exact (by (with_reducible repeat (first | apply Kd.R_alloc | apply Kd.R_drewN | apply Kd.R_drew)); exact (Kd.R_mono (Kd.R_far (p := ⟨gb216, 0, none⟩) (Kd.R_types HO_189000.out BK216.out (by decide)) (fun _ hk => hk.2) (.slice Ao121 t212.length co121)) (fun _ h_ => h_.1)))); (case side4 => exact (Kd.R_reads' HO_189000.out).2.1); rintro e w138 ⟨rfl, hb⟩; refine ⟨_, rfl, ?_⟩; have n0_ := Aside0.mk (Kd.R_below (by (with_reducible repeat (first | apply Kd.R_alloc | apply Kd.R_drewN | apply Kd.R_drew)); exact (Kd.R_mono (Kd.R_far (p := ⟨gb216, 0, none⟩) (Kd.R_types HO_189000.out BK216.out (by decide)) (fun _ hk => hk.2) (.slice Ao121 t212.length co121)) (fun _ h_ => h_.1))) hb); have n1_ := Aside0.mk (Kd.R_below (by (with_reducible repeat (first | apply Kd.R_alloc | apply Kd.R_drewN | apply Kd.R_drew)); exact (Kd.R_mono (Kd.R_far (p := ⟨gb216, 0, none⟩) (Kd.R_types HO_193000.out BK216.out (by decide)) (fun _ hk => hk.2) (.slice Ao121 t212.length co121)) (fun _ h_ => h_.1))) hb); have n2_ := Aside0.mk (Kd.R_below (by (with_reducible repeat (first | apply Kd.R_alloc | apply Kd.R_drewN | apply Kd.R_drew)); exact (Kd.R_mono (Kd.R_far (p := ⟨gb216, 0, none⟩) (Kd.R_types HO_198000.out BK216.out (by decide)) (fun _ hk => hk.2) (.slice Ao121 t212.length co121)) (fun _ h_ => h_.1))) hb); have n3_ := Aside0.mk (Kd.R_below (by (with_reducible repeat (first | apply Kd.R_alloc | apply Kd.R_drewN | apply Kd.R_drew)); exact (Kd.R_mono (Kd.R_far (p := ⟨gb216, 0, none⟩) (Kd.R_types HO211.out BK216.out (by decide)) (fun _ hk => hk.2) (.slice Ao121 t212.length co121)) (fun _ h_ => h_.1))) hb); have n4_ := Aside0.mk (Kd.R_below (by (with_reducible repeat (first | apply Kd.R_alloc | apply Kd.R_drewN | apply Kd.R_drew)); exact (Kd.R_mono (Kd.R_far (p := ⟨gb216, 0, none⟩) (Kd.R_types HO214.out BK216.out (by decide)) (fun _ hk => hk.2) (.slice Ao121 t212.length co121)) (fun _ h_ => h_.1))) hb); have n5_ := Aside0.mk (blk_below (g := gb179) (o := .cells #[.slice A0_0 l0_0.length c0_0] 24 (0, 0)) (by (with_reducible repeat (first | refine blk_drewN ?_ _ | refine blk_drew ?_ | refine blk_alloc ?_ _)); refine blk_far ?_ NB179_216.out _; (with_reducible repeat (first | refine blk_drewN ?_ _ | refine blk_drew ?_ | refine blk_alloc ?_ _)); exact BK179.out) hb); have n6_ := Aside0.mk (blk_below (g := gb188) (o := .cells #[.slice Ao23 t184.length co23] 27 (0, 0)) (by (with_reducible repeat (first | refine blk_drewN ?_ _ | refine blk_drew ?_ | refine blk_alloc ?_ _)); refine blk_far ?_ NB188_216.out _; (with_reducible repeat (first | refine blk_drewN ?_ _ | refine blk_drew ?_ | refine blk_alloc ?_ _)); exact BK188.out) hb); have n7_ := Aside0.mk (blk_below (g := gb192) (o := .cells #[.slice Ao29 t204.length co29] 27 (0, 0)) (by (with_reducible repeat (first | refine blk_drewN ?_ _ | refine blk_drew ?_ | refine blk_alloc ?_ _)); refine blk_far ?_ NB192_216.out _; (with_reducible repeat (first | refine blk_drewN ?_ _ | refine blk_drew ?_ | refine blk_alloc ?_ _)); exact BK192.out) hb); have n8_ := Aside0.mk (blk_below (g := gb197) (o := .cells #[.slice Ao35 t193.length co35] 27 (0, 0)) (by (with_reducible repeat (first | refine blk_drewN ?_ _ | refine blk_drew ?_ | refine blk_alloc ?_ _)); refine blk_far ?_ NB197_216.out _; (with_reducible repeat (first | refine blk_drewN ?_ _ | refine blk_drew ?_ | refine blk_alloc ?_ _)); exact BK197.out) hb); have n9_ := Aside0.mk (blk_below (g := gb216) (o := .cells #[.slice Ao121 t212.length co121] 27 (0, 0)) (by (with_reducible repeat (first | refine blk_drewN ?_ _ | refine blk_drew ?_ | refine blk_alloc ?_ _)); refine blk_put (cs := #[.slice none 0 0]) ?_ 0 _ rfl; (with_reducible repeat (first | refine blk_drewN ?_ _ | refine blk_drew ?_ | refine blk_alloc ?_ _)); exact BK216.out) hb); have n10_ := Aside0.mk (below_step (by repeat (first | (with_reducible first | exact HB.out | apply below_alloc | apply pw_below_drewN | apply below_drew1 | refine below_set ?_ GE179.out | refine below_set ?_ GE188.out | refine below_set ?_ GE192.out | refine below_set ?_ GE197.out | refine below_set ?_ GE216.out) | exact HB.out)) hb); clear HO_189000; clear HO_193000; clear HO_198000; clear HO211; clear HO214; clear BK179; clear BK188; clear BK192; clear BK197; clear BK216; clear HB; have HO_189000 := n0_; have HO_193000 := n1_; have HO_198000 := n2_; have HO211 := n3_; have HO214 := n4_; have BK179 := n5_; have BK188 := n6_; have BK192 := n7_; have BK197 := n8_; have BK216 := n9_; have HB := n10_; clear n0_ n1_ n2_ n3_ n4_ n5_ n6_ n7_ n8_ n9_ n10_; (try clear hb); (try clear hb2); (try clear hk); (try clear hi)))
                            go_meet
                            case rel => exact ⟨_, ((t215 != t187)), (by first | rfl | (simp; done) | (simp [*]; done)), H', ⟨by have := HJ13.out; have := HJ62.out; first | omega | exact Nat.le_refl _⟩, ⟨by (try simp only [hl193000_62]); (with_reducible repeat (first | apply Kd.R_alloc | apply Kd.R_drewN | apply Kd.R_drew)); exact Kd.R_mono HO_189000.out (fun _ hk => ⟨hk.1.1.1, ⟨hk.1.1.2, hk.2⟩⟩)⟩, ⟨by (try simp only [hl193000_62]); (with_reducible repeat (first | apply Kd.R_alloc | apply Kd.R_drewN | apply Kd.R_drew)); exact Kd.R_mono HO_193000.out (fun _ hk => ⟨hk.1.1.1, ⟨hk.1.1.2, hk.2⟩⟩)⟩, ⟨by (try simp only [hl193000_62]); (with_reducible repeat (first | apply Kd.R_alloc | apply Kd.R_drewN | apply Kd.R_drew)); exact Kd.R_mono HO_198000.out (fun _ hk => ⟨hk.1.1.1, ⟨hk.1.1.2, hk.2⟩⟩)⟩, ⟨by (try simp only [hl193000_62]); (with_reducible repeat (first | apply Kd.R_alloc | apply Kd.R_drewN | apply Kd.R_drew)); exact Kd.R_mono HO214.out (fun _ hk => ⟨hk.1.1.1.2, ⟨hk.1.1.2, hk.1.2⟩⟩)⟩, ⟨by (try simp only [hl193000_62]); (with_reducible repeat (first | refine blk_drewN ?_ _ | refine blk_drew ?_ | refine blk_alloc ?_ _)); exact BK179.out⟩, ⟨by (try simp only [hl193000_62]); (with_reducible repeat (first | refine blk_drewN ?_ _ | refine blk_drew ?_ | refine blk_alloc ?_ _)); exact BK188.out⟩, ⟨by (try simp only [hl193000_62]); (with_reducible repeat (first | refine blk_drewN ?_ _ | refine blk_drew ?_ | refine blk_alloc ?_ _)); exact BK192.out⟩, ⟨by (try simp only [hl193000_62]); (with_reducible repeat (first | refine blk_drewN ?_ _ | refine blk_drew ?_ | refine blk_alloc ?_ _)); exact BK197.out⟩, ⟨by (try simp only [hl193000_62]); (with_reducible repeat (first | refine blk_drewN ?_ _ | refine blk_drew ?_ | refine blk_alloc ?_ _)); exact BK216.out⟩, ⟨by repeat (first | (with_reducible first | exact HB.out | apply below_alloc | apply pw_below_drewN | apply below_drew1 | refine below_set ?_ GE179.out | refine below_set ?_ GE188.out | refine below_set ?_ GE192.out | refine below_set ?_ GE197.out | refine below_set ?_ GE216.out) | exact HB.out)⟩⟩
                          · replace c128 := Bool.eq_false_iff.mpr c128
                            subst c128
                            have H1 : (laws_FnExactAddLetter.j2 kj62 t206 true t207) = some r := by rw [if_neg (show ¬ (false = true) by decide)] at H; exact H
                            clear H
                            have H := H1
                            clear H1
                            have H' := Aside0.mk H
                            clear H
                            have hnb139 := NB216_179.out
                            have hnc139 := NB179_216.out
                            have hnb140 := NB216_188.out
                            have hnc140 := NB188_216.out
                            have hnb141 := NB216_192.out
                            have hnc141 := NB192_216.out
                            have hnb142 := NB216_197.out
                            have hnc142 := NB197_216.out
                            have hcz143_0 : w120.cell? ⟨gb216, 0, none⟩ = some (.slice none 0 0) := (blk_cell BK216.out 0).trans rfl
                            have hfz143_0 := blk_frozen BK216.out 0
                            have hnb144 := NB188_179.out
                            have hnc144 := NB179_188.out
                            have hnb145 := NB188_192.out
                            have hnc145 := NB192_188.out
                            have hnb146 := NB188_197.out
                            have hnc146 := NB197_188.out
                            have hcz147_0 : w120.cell? ⟨gb188, 0, none⟩ = some (.slice Ao23 t184.length co23) := (blk_cell BK188.out 0).trans rfl
                            have hfz147_0 := blk_frozen BK188.out 0
                            go_wp2_with (first | ((with_reducible refine gate_callee (f := 19) rfl ?_); refine goesL_ (some 89) rfl rfl Tryd.func19 (by kernel_rfl) rfl #[.agg #[.slice Ao121 t212.length co121], .agg #[.slice Ao23 t184.length co23]] rfl (by (try simp only [List.map_toArray, List.map_cons, List.map_nil]); first | done | rfl | (simp only [List.length_drop, List.length_take]; rfl)) ?_; (with_reducible refine (laws_eqTable.calls kj62 _ _ t212 _ _ t184 false _ ?side1 ?side2 ?side3 ?side4 A127.out).mono ?_); (case side1 => refine (Kd.R_reads' (e := 9) (base := w.heap.size) (ok := fun k_ => ((((True ∧ some k_ ≠ (.slice Ao23 t184.length co23 : Value).ownBlock) ∧ some k_ ≠ (.slice Ao29 t204.length co29 : Value).ownBlock) ∧ some k_ ≠ (.slice Ao35 t193.length co35 : Value).ownBlock) ∧ some k_ ≠ (.slice Ao118 t209.length co118 : Value).ownBlock)) (n := t212.length) (c := co121) ?_).2.2; exact (by (with_reducible repeat (first | apply Kd.R_alloc | apply Kd.R_drewN | apply Kd.R_drew)); exact (Kd.R_mono (Kd.R_far (p := ⟨gb216, 0, none⟩) (Kd.R_types HO214.out BK216.out (by decide)) (fun _ hk => hk.2) (.slice Ao121 t212.length co121)) (fun _ h_ => h_.1)))); (case side2 => exact (Kd.R_reads' HO214.out).2.1); (case side3 => refine (Kd.R_reads' (e := 9) (base := w.heap.size) (ok := fun k_ => (((some k_ ≠ (.slice Ao29 t204.length co29 : Value).ownBlock ∧ some k_ ≠ (.slice Ao35 t193.length co35 : Value).ownBlock) ∧ some k_ ≠ (.slice Ao118 t209.length co118 : Value).ownBlock) ∧ some k_ ≠ (.slice Ao121 t212.length co121 : Value).ownBlock)) (n := t184.length) (c := co23) ?_).2.2; exact (by (with_reducible repeat (first | apply Kd.R_alloc | apply Kd.R_drewN | apply Kd.R_drew)); exact (Kd.R_mono (Kd.R_far (p := ⟨gb216, 0, none⟩) (Kd.R_types HO_189000.out BK216.out (by decide)) (fun _ hk => hk.2) (.slice Ao121 t212.length co121)) (fun _ h_ => h_.1)))); (case side4 => exact (Kd.R_reads' HO_189000.out).2.1); rintro e w148 ⟨rfl, hb⟩; refine ⟨_, rfl, ?_⟩; have n0_ := Aside0.mk (Kd.R_below (by (with_reducible repeat (first | apply Kd.R_alloc | apply Kd.R_drewN | apply Kd.R_drew)); exact (Kd.R_mono (Kd.R_far (p := ⟨gb216, 0, none⟩) (Kd.R_types HO_189000.out BK216.out (by decide)) (fun _ hk => hk.2) (.slice Ao121 t212.length co121)) (fun _ h_ => h_.1))) hb); have n1_ := Aside0.mk (Kd.R_below (by (with_reducible repeat (first | apply Kd.R_alloc | apply Kd.R_drewN | apply Kd.R_drew)); exact (Kd.R_mono (Kd.R_far (p := ⟨gb216, 0, none⟩) (Kd.R_types HO_193000.out BK216.out (by decide)) (fun _ hk => hk.2) (.slice Ao121 t212.length co121)) (fun _ h_ => h_.1))) hb); have n2_ := Aside0.mk (Kd.R_below (by (with_reducible repeat (first | apply Kd.R_alloc | apply Kd.R_drewN | apply Kd.R_drew)); exact (Kd.R_mono (Kd.R_far (p := ⟨gb216, 0, none⟩) (Kd.R_types HO_198000.out BK216.out (by decide)) (fun _ hk => hk.2) (.slice Ao121 t212.length co121)) (fun _ h_ => h_.1))) hb); have n3_ := Aside0.mk (Kd.R_below (by (with_reducible repeat (first | apply Kd.R_alloc | apply Kd.R_drewN | apply Kd.R_drew)); exact (Kd.R_mono (Kd.R_far (p := ⟨gb216, 0, none⟩) (Kd.R_types HO211.out BK216.out (by decide)) (fun _ hk => hk.2) (.slice Ao121 t212.length co121)) (fun _ h_ => h_.1))) hb); have n4_ := Aside0.mk (Kd.R_below (by (with_reducible repeat (first | apply Kd.R_alloc | apply Kd.R_drewN | apply Kd.R_drew)); exact (Kd.R_mono (Kd.R_far (p := ⟨gb216, 0, none⟩) (Kd.R_types HO214.out BK216.out (by decide)) (fun _ hk => hk.2) (.slice Ao121 t212.length co121)) (fun _ h_ => h_.1))) hb); have n5_ := Aside0.mk (blk_below (g := gb179) (o := .cells #[.slice A0_0 l0_0.length c0_0] 24 (0, 0)) (by (with_reducible repeat (first | refine blk_drewN ?_ _ | refine blk_drew ?_ | refine blk_alloc ?_ _)); refine blk_far ?_ NB179_216.out _; (with_reducible repeat (first | refine blk_drewN ?_ _ | refine blk_drew ?_ | refine blk_alloc ?_ _)); exact BK179.out) hb); have n6_ := Aside0.mk (blk_below (g := gb188) (o := .cells #[.slice Ao23 t184.length co23] 27 (0, 0)) (by (with_reducible repeat (first | refine blk_drewN ?_ _ | refine blk_drew ?_ | refine blk_alloc ?_ _)); refine blk_far ?_ NB188_216.out _; (with_reducible repeat (first | refine blk_drewN ?_ _ | refine blk_drew ?_ | refine blk_alloc ?_ _)); exact BK188.out) hb); have n7_ := Aside0.mk (blk_below (g := gb192) (o := .cells #[.slice Ao29 t204.length co29] 27 (0, 0)) (by (with_reducible repeat (first | refine blk_drewN ?_ _ | refine blk_drew ?_ | refine blk_alloc ?_ _)); refine blk_far ?_ NB192_216.out _; (with_reducible repeat (first | refine blk_drewN ?_ _ | refine blk_drew ?_ | refine blk_alloc ?_ _)); exact BK192.out) hb); have n8_ := Aside0.mk (blk_below (g := gb197) (o := .cells #[.slice Ao35 t193.length co35] 27 (0, 0)) (by (with_reducible repeat (first | refine blk_drewN ?_ _ | refine blk_drew ?_ | refine blk_alloc ?_ _)); refine blk_far ?_ NB197_216.out _; (with_reducible repeat (first | refine blk_drewN ?_ _ | refine blk_drew ?_ | refine blk_alloc ?_ _)); exact BK197.out) hb); have n9_ := Aside0.mk (blk_below (g := gb216) (o := .cells #[.slice Ao121 t212.length co121] 27 (0, 0)) (by (with_reducible repeat (first | refine blk_drewN ?_ _ | refine blk_drew ?_ | refine blk_alloc ?_ _)); refine blk_put (cs := #[.slice none 0 0]) ?_ 0 _ rfl; (with_reducible repeat (first | refine blk_drewN ?_ _ | refine blk_drew ?_ | refine blk_alloc ?_ _)); exact BK216.out) hb); have n10_ := Aside0.mk (below_step (by repeat (first | (with_reducible first | exact HB.out | apply below_alloc | apply pw_below_drewN | apply below_drew1 | refine below_set ?_ GE179.out | refine below_set ?_ GE188.out | refine below_set ?_ GE192.out | refine below_set ?_ GE197.out | refine below_set ?_ GE216.out) | exact HB.out)) hb); clear HO_189000; clear HO_193000; clear HO_198000; clear HO211; clear HO214; clear BK179; clear BK188; clear BK192; clear BK197; clear BK216; clear HB; have HO_189000 := n0_; have HO_193000 := n1_; have HO_198000 := n2_; have HO211 := n3_; have HO214 := n4_; have BK179 := n5_; have BK188 := n6_; have BK192 := n7_; have BK197 := n8_; have BK216 := n9_; have HB := n10_; clear n0_ n1_ n2_ n3_ n4_ n5_ n6_ n7_ n8_ n9_ n10_; (try clear hb); (try clear hb2); (try clear hk); (try clear hi)))
                            go_meet
                            case rel => exact ⟨_, (true), (by first | rfl | (simp; done) | (simp [*]; done)), H', ⟨by have := HJ13.out; have := HJ62.out; first | omega | exact Nat.le_refl _⟩, ⟨by (try simp only [hl193000_62]); (with_reducible repeat (first | apply Kd.R_alloc | apply Kd.R_drewN | apply Kd.R_drew)); exact Kd.R_mono HO_189000.out (fun _ hk => ⟨hk.1.1.1, ⟨hk.1.1.2, hk.2⟩⟩)⟩, ⟨by (try simp only [hl193000_62]); (with_reducible repeat (first | apply Kd.R_alloc | apply Kd.R_drewN | apply Kd.R_drew)); exact Kd.R_mono HO_193000.out (fun _ hk => ⟨hk.1.1.1, ⟨hk.1.1.2, hk.2⟩⟩)⟩, ⟨by (try simp only [hl193000_62]); (with_reducible repeat (first | apply Kd.R_alloc | apply Kd.R_drewN | apply Kd.R_drew)); exact Kd.R_mono HO_198000.out (fun _ hk => ⟨hk.1.1.1, ⟨hk.1.1.2, hk.2⟩⟩)⟩, ⟨by (try simp only [hl193000_62]); (with_reducible repeat (first | apply Kd.R_alloc | apply Kd.R_drewN | apply Kd.R_drew)); exact Kd.R_mono HO214.out (fun _ hk => ⟨hk.1.1.1.2, ⟨hk.1.1.2, hk.1.2⟩⟩)⟩, ⟨by (try simp only [hl193000_62]); (with_reducible repeat (first | refine blk_drewN ?_ _ | refine blk_drew ?_ | refine blk_alloc ?_ _)); exact BK179.out⟩, ⟨by (try simp only [hl193000_62]); (with_reducible repeat (first | refine blk_drewN ?_ _ | refine blk_drew ?_ | refine blk_alloc ?_ _)); exact BK188.out⟩, ⟨by (try simp only [hl193000_62]); (with_reducible repeat (first | refine blk_drewN ?_ _ | refine blk_drew ?_ | refine blk_alloc ?_ _)); exact BK192.out⟩, ⟨by (try simp only [hl193000_62]); (with_reducible repeat (first | refine blk_drewN ?_ _ | refine blk_drew ?_ | refine blk_alloc ?_ _)); exact BK197.out⟩, ⟨by (try simp only [hl193000_62]); (with_reducible repeat (first | refine blk_drewN ?_ _ | refine blk_drew ?_ | refine blk_alloc ?_ _)); exact BK216.out⟩, ⟨by repeat (first | (with_reducible first | exact HB.out | apply below_alloc | apply pw_below_drewN | apply below_drew1 | refine below_set ?_ GE179.out | refine below_set ?_ GE188.out | refine below_set ?_ GE192.out | refine below_set ?_ GE197.out | refine below_set ?_ GE216.out) | exact HB.out)⟩⟩
                        case rest =>
                          clear HC106
                          try clear c1
                          try clear c2
                          try clear p2
                          try clear c3
                          try clear c3b0
                          try clear c3b1
                          try clear c4
                          try clear c5
                          try clear c6
                          try clear c6b0
                          try clear c7
                          try clear c8
                          try clear c9
                          try clear c10
                          try clear c11
                          try clear c12
                          try clear c13
                          try clear c14
                          try clear c15
                          try clear c17
                          try clear c19
                          try clear c24
                          try clear c30
                          try clear c31
                          try clear c32
                          try clear c33
                          try clear c36
                          try clear c37
                          try clear c38
                          try clear c41
                          try clear c42
                          try clear c43
                          try clear c44
                          try clear c46
                          try clear c47
                          try clear c50
                          try clear c51
                          try clear c52
                          try clear c54
                          try clear c55
                          try clear c58
                          try clear c61
                          try clear c68
                          try clear c69
                          try clear c70
                          try clear c73
                          try clear c73b0
                          try clear c75
                          try clear c76
                          try clear c77
                          try clear c78
                          try clear c80
                          try clear c81
                          try clear c84
                          try clear c85
                          try clear c86
                          try clear c88
                          try clear c89
                          try clear c92
                          try clear c95
                          try clear c95b0
                          try clear c96
                          try clear c97
                          try clear c98
                          try clear c103
                          try clear c103b0
                          try clear c103b1
                          try clear c107
                          try clear c108
                          try clear c109
                          try clear c114
                          try clear c115
                          try clear c122
                          try clear c123
                          try clear c124
                          try clear c125
                          try clear c128
                          try clear c129
                          try clear c130
                          try clear c131
                          try clear c132
                          try clear c134
                          try clear c135
                          try clear c136
                          try clear c139
                          try clear c140
                          try clear c141
                          try clear c142
                          try clear c144
                          try clear c145
                          try clear c146
                          try clear hcz101_0
                          try clear hcz110_0
                          try clear hcz112_0
                          try clear hcz116_0
                          try clear hcz126_0
                          try clear hcz133_0
                          try clear hcz137_0
                          try clear hcz143_0
                          try clear hcz147_0
                          try clear hcz16_0
                          try clear hcz18_0
                          try clear hcz25_0
                          try clear hcz26_0
                          try clear hcz32_0
                          try clear hcz39_0
                          try clear hcz45_0
                          try clear hcz48_0
                          try clear hcz53_0
                          try clear hcz56_0
                          try clear hcz71_0
                          try clear hcz79_0
                          try clear hcz82_0
                          try clear hcz87_0
                          try clear hcz8_0
                          try clear hcz90_0
                          try clear hcz99_0
                          try clear hfz101_0
                          try clear hfz110_0
                          try clear hfz112_0
                          try clear hfz116_0
                          try clear hfz126_0
                          try clear hfz133_0
                          try clear hfz137_0
                          try clear hfz143_0
                          try clear hfz147_0
                          try clear hfz16_0
                          try clear hfz18_0
                          try clear hfz25_0
                          try clear hfz26_0
                          try clear hfz32_0
                          try clear hfz39_0
                          try clear hfz45_0
                          try clear hfz48_0
                          try clear hfz53_0
                          try clear hfz56_0
                          try clear hfz71_0
                          try clear hfz79_0
                          try clear hfz82_0
                          try clear hfz87_0
                          try clear hfz8_0
                          try clear hfz90_0
                          try clear hfz99_0
                          try clear p2
                          obtain ⟨kq, x95_105, rfl, HA, HJ105, HO_189000, HO_193000, HO_198000, HO_217000, BK179, BK188, BK192, BK197, BK216, HB⟩ := hcut
                          have hl198000_105 := (Kd.R_reads' HO_198000.out).1
                          rw [hl198000_105] at HO_198000
                          (try simp only [hl198000_105])
                          (try simp only [hl198000_105] at BK179)
                          (try simp only [hl198000_105] at BK188)
                          (try simp only [hl198000_105] at BK192)
                          (try simp only [hl198000_105] at BK197)
                          (try simp only [hl198000_105] at BK216)
                          (try simp only [hl198000_105] at HO_189000)
                          (try simp only [hl198000_105] at HO_193000)
                          (try simp only [hl198000_105] at HO_217000)
                          cases kq with
                          | zero => exact absurd HA.out (by simp [laws_FnExactAddLetter.j2])
                          | succ kj105 =>
                            have H := HA.out
                            clear HA
                            simp only [laws_FnExactAddLetter.j2] at H
                            by_cases c149 : x95_105 = true
                            · subst c149
                              have H1 : (some false) = some r := by rw [if_pos rfl] at H; exact H
                              clear H
                              have H := H1
                              clear H1
                              obtain rfl := Option.some.inj H
                              go_wp2
                              go_ret
                              exact ⟨by first | rfl | (simp [errW_none, errW_some] <;> rfl) | (simp [*, errW_none, errW_some] <;> rfl), by repeat (first | (with_reducible first | exact HB.out | apply below_alloc | apply pw_below_drewN | apply below_drew1 | refine below_set ?_ GE179.out | refine below_set ?_ GE188.out | refine below_set ?_ GE192.out | refine below_set ?_ GE197.out | refine below_set ?_ GE216.out) | exact HB.out)⟩
                            · replace c149 := Bool.eq_false_iff.mpr c149
                              subst c149
                              have H1 : ((laws_heldTable.f kj105 t207 1).bind fun t218 => (if t218 < 0 then (some false) else (if t218 = t206 then (some true) else (some false)))) = some r := by rw [if_neg (show ¬ (false = true) by decide)] at H; exact H
                              clear H
                              have H := H1
                              clear H1
                              replace H := Option.bind_eq_some_iff.mp H
                              obtain ⟨t218, A1500, H⟩ := H
                              replace H : (if t218 < 0 then (some false) else (if t218 = t206 then (some true) else (some false))) = some r := H
                              have A150 := Aside0.mk A1500
                              clear A1500
                              by_cases c151 : t218 < 0
                              · rw [if_pos c151] at H
                                have c151b0 : decide (t218 < 0) = true := decide_eq_true c151
                                clear c151
                                obtain rfl := Option.some.inj H
                                have hnb152 := NB197_179.out
                                have hnc152 := NB179_197.out
                                have hnb153 := NB197_188.out
                                have hnc153 := NB188_197.out
                                have hnb154 := NB197_192.out
                                have hnc154 := NB192_197.out
                                have hnb155 := NB197_216.out
                                have hnc155 := NB216_197.out
                                have hcz156_0 : wc.cell? ⟨gb197, 0, none⟩ = some (.slice Ao35 t207.length co35) := (blk_cell BK197.out 0).trans rfl
                                have hfz156_0 := blk_frozen BK197.out 0
                                go_wp2_with (first | ((with_reducible refine gate_callee (f := 33) rfl ?_); refine goesL_ (some 98) rfl rfl Tryd.func33 (by kernel_rfl) rfl #[.agg #[.slice Ao35 t207.length co35], .int .i64 1] rfl (by (try simp only [List.map_toArray, List.map_cons, List.map_nil]); first | done | rfl | (simp only [List.length_drop, List.length_take]; rfl)) ?_; (with_reducible refine (laws_heldTable.calls kj105 _ _ t207 1 t218 _ ?side1 ?side2 A150.out).mono ?_); (case side1 => repeat (first | exact (Kd.R_reads' HO_198000.out).2.2 | (with_reducible refine Kd.C_alloc ?_ _) | (with_reducible refine Kd.C_drewN ?_ _) | (with_reducible refine Kd.C_drew ?_))); (case side2 => exact (Kd.R_reads' HO_198000.out).2.1); rintro e w157 ⟨rfl, hb⟩; refine ⟨_, rfl, ?_⟩; have n0_ := Aside0.mk (Kd.R_below (by (with_reducible repeat (first | apply Kd.R_alloc | apply Kd.R_drewN | apply Kd.R_drew)); exact HO_189000.out) hb); have n1_ := Aside0.mk (Kd.R_below (by (with_reducible repeat (first | apply Kd.R_alloc | apply Kd.R_drewN | apply Kd.R_drew)); exact HO_193000.out) hb); have n2_ := Aside0.mk (Kd.R_below (by (with_reducible repeat (first | apply Kd.R_alloc | apply Kd.R_drewN | apply Kd.R_drew)); exact HO_198000.out) hb); have n3_ := Aside0.mk (Kd.R_below (by (with_reducible repeat (first | apply Kd.R_alloc | apply Kd.R_drewN | apply Kd.R_drew)); exact HO_217000.out) hb); have n4_ := Aside0.mk (blk_below (g := gb179) (o := .cells #[.slice A0_0 l0_0.length c0_0] 24 (0, 0)) (by (with_reducible repeat (first | refine blk_drewN ?_ _ | refine blk_drew ?_ | refine blk_alloc ?_ _)); exact BK179.out) hb); have n5_ := Aside0.mk (blk_below (g := gb188) (o := .cells #[.slice Ao23 t184.length co23] 27 (0, 0)) (by (with_reducible repeat (first | refine blk_drewN ?_ _ | refine blk_drew ?_ | refine blk_alloc ?_ _)); exact BK188.out) hb); have n6_ := Aside0.mk (blk_below (g := gb192) (o := .cells #[.slice Ao29 t204.length co29] 27 (0, 0)) (by (with_reducible repeat (first | refine blk_drewN ?_ _ | refine blk_drew ?_ | refine blk_alloc ?_ _)); exact BK192.out) hb); have n7_ := Aside0.mk (blk_below (g := gb197) (o := .cells #[.slice Ao35 t207.length co35] 27 (0, 0)) (by (with_reducible repeat (first | refine blk_drewN ?_ _ | refine blk_drew ?_ | refine blk_alloc ?_ _)); exact BK197.out) hb); have n8_ := Aside0.mk (blk_below (g := gb216) (o := .cells #[.slice Ao121 t212.length co121] 27 (0, 0)) (by (with_reducible repeat (first | refine blk_drewN ?_ _ | refine blk_drew ?_ | refine blk_alloc ?_ _)); exact BK216.out) hb); have n9_ := Aside0.mk (below_step (by repeat (first | (with_reducible first | exact HB.out | apply below_alloc | apply pw_below_drewN | apply below_drew1 | refine below_set ?_ GE179.out | refine below_set ?_ GE188.out | refine below_set ?_ GE192.out | refine below_set ?_ GE197.out | refine below_set ?_ GE216.out) | exact HB.out)) hb); clear HO_189000; clear HO_193000; clear HO_198000; clear HO_217000; clear BK179; clear BK188; clear BK192; clear BK197; clear BK216; clear HB; have HO_189000 := n0_; have HO_193000 := n1_; have HO_198000 := n2_; have HO_217000 := n3_; have BK179 := n4_; have BK188 := n5_; have BK192 := n6_; have BK197 := n7_; have BK216 := n8_; have HB := n9_; clear n0_ n1_ n2_ n3_ n4_ n5_ n6_ n7_ n8_ n9_; (try clear hb); (try clear hb2); (try clear hk); (try clear hi)))
                                go_ret
                                exact ⟨by first | rfl | (simp [errW_none, errW_some] <;> rfl) | (simp [*, errW_none, errW_some] <;> rfl), by repeat (first | (with_reducible first | exact HB.out | apply below_alloc | apply pw_below_drewN | apply below_drew1 | refine below_set ?_ GE179.out | refine below_set ?_ GE188.out | refine below_set ?_ GE192.out | refine below_set ?_ GE197.out | refine below_set ?_ GE216.out) | exact HB.out)⟩
                              · rw [if_neg c151] at H
                                have c151b0 : decide (t218 < 0) = false := decide_eq_false c151
                                clear c151
                                by_cases c158 : t218 = t206
                                · rw [if_pos c158] at H
                                  have c158b0 : (t218 == t206) = true := beq_iff_eq.mpr c158
                                  have c158b1 : (t218 != t206) = false := bne_eq_false_iff_eq.mpr c158
                                  clear c158
                                  obtain rfl := Option.some.inj H
                                  have hnb159 := NB197_179.out
                                  have hnc159 := NB179_197.out
                                  have hnb160 := NB197_188.out
                                  have hnc160 := NB188_197.out
                                  have hnb161 := NB197_192.out
                                  have hnc161 := NB192_197.out
                                  have hnb162 := NB197_216.out
                                  have hnc162 := NB216_197.out
                                  have hcz163_0 : wc.cell? ⟨gb197, 0, none⟩ = some (.slice Ao35 t207.length co35) := (blk_cell BK197.out 0).trans rfl
                                  have hfz163_0 := blk_frozen BK197.out 0
                                  go_wp2_with (first | ((with_reducible refine gate_callee (f := 33) rfl ?_); refine goesL_ (some 98) rfl rfl Tryd.func33 (by kernel_rfl) rfl #[.agg #[.slice Ao35 t207.length co35], .int .i64 1] rfl (by (try simp only [List.map_toArray, List.map_cons, List.map_nil]); first | done | rfl | (simp only [List.length_drop, List.length_take]; rfl)) ?_; (with_reducible refine (laws_heldTable.calls kj105 _ _ t207 1 t218 _ ?side1 ?side2 A150.out).mono ?_); (case side1 => repeat (first | exact (Kd.R_reads' HO_198000.out).2.2 | (with_reducible refine Kd.C_alloc ?_ _) | (with_reducible refine Kd.C_drewN ?_ _) | (with_reducible refine Kd.C_drew ?_))); (case side2 => exact (Kd.R_reads' HO_198000.out).2.1); rintro e w164 ⟨rfl, hb⟩; refine ⟨_, rfl, ?_⟩; have n0_ := Aside0.mk (Kd.R_below (by (with_reducible repeat (first | apply Kd.R_alloc | apply Kd.R_drewN | apply Kd.R_drew)); exact HO_189000.out) hb); have n1_ := Aside0.mk (Kd.R_below (by (with_reducible repeat (first | apply Kd.R_alloc | apply Kd.R_drewN | apply Kd.R_drew)); exact HO_193000.out) hb); have n2_ := Aside0.mk (Kd.R_below (by (with_reducible repeat (first | apply Kd.R_alloc | apply Kd.R_drewN | apply Kd.R_drew)); exact HO_198000.out) hb); have n3_ := Aside0.mk (Kd.R_below (by (with_reducible repeat (first | apply Kd.R_alloc | apply Kd.R_drewN | apply Kd.R_drew)); exact HO_217000.out) hb); have n4_ := Aside0.mk (blk_below (g := gb179) (o := .cells #[.slice A0_0 l0_0.length c0_0] 24 (0, 0)) (by (with_reducible repeat (first | refine blk_drewN ?_ _ | refine blk_drew ?_ | refine blk_alloc ?_ _)); exact BK179.out) hb); have n5_ := Aside0.mk (blk_below (g := gb188) (o := .cells #[.slice Ao23 t184.length co23] 27 (0, 0)) (by (with_reducible repeat (first | refine blk_drewN ?_ _ | refine blk_drew ?_ | refine blk_alloc ?_ _)); exact BK188.out) hb); have n6_ := Aside0.mk (blk_below (g := gb192) (o := .cells #[.slice Ao29 t204.length co29] 27 (0, 0)) (by (with_reducible repeat (first | refine blk_drewN ?_ _ | refine blk_drew ?_ | refine blk_alloc ?_ _)); exact BK192.out) hb); have n7_ := Aside0.mk (blk_below (g := gb197) (o := .cells #[.slice Ao35 t207.length co35] 27 (0, 0)) (by (with_reducible repeat (first | refine blk_drewN ?_ _ | refine blk_drew ?_ | refine blk_alloc ?_ _)); exact BK197.out) hb); have n8_ := Aside0.mk (blk_below (g := gb216) (o := .cells #[.slice Ao121 t212.length co121] 27 (0, 0)) (by (with_reducible repeat (first | refine blk_drewN ?_ _ | refine blk_drew ?_ | refine blk_alloc ?_ _)); exact BK216.out) hb); have n9_ := Aside0.mk (below_step (by repeat (first | (with_reducible first | exact HB.out | apply below_alloc | apply pw_below_drewN | apply below_drew1 | refine below_set ?_ GE179.out | refine below_set ?_ GE188.out | refine below_set ?_ GE192.out | refine below_set ?_ GE197.out | refine below_set ?_ GE216.out) | exact HB.out)) hb); clear HO_189000; clear HO_193000; clear HO_198000; clear HO_217000; clear BK179; clear BK188; clear BK192; clear BK197; clear BK216; clear HB; have HO_189000 := n0_; have HO_193000 := n1_; have HO_198000 := n2_; have HO_217000 := n3_; have BK179 := n4_; have BK188 := n5_; have BK192 := n6_; have BK197 := n7_; have BK216 := n8_; have HB := n9_; clear n0_ n1_ n2_ n3_ n4_ n5_ n6_ n7_ n8_ n9_; (try clear hb); (try clear hb2); (try clear hk); (try clear hi)))
                                  go_ret
                                  exact ⟨by first | rfl | (simp [errW_none, errW_some] <;> rfl) | (simp [*, errW_none, errW_some] <;> rfl), by repeat (first | (with_reducible first | exact HB.out | apply below_alloc | apply pw_below_drewN | apply below_drew1 | refine below_set ?_ GE179.out | refine below_set ?_ GE188.out | refine below_set ?_ GE192.out | refine below_set ?_ GE197.out | refine below_set ?_ GE216.out) | exact HB.out)⟩
                                · rw [if_neg c158] at H
                                  have c158b0 : (t218 == t206) = false := beq_eq_false_iff_ne.mpr c158
                                  have c158b1 : (t218 != t206) = true := bne_iff_ne.mpr c158
                                  obtain rfl := Option.some.inj H
                                  have hnb165 := NB197_179.out
                                  have hnc165 := NB179_197.out
                                  have hnb166 := NB197_188.out
                                  have hnc166 := NB188_197.out
                                  have hnb167 := NB197_192.out
                                  have hnc167 := NB192_197.out
                                  have hnb168 := NB197_216.out
                                  have hnc168 := NB216_197.out
                                  have hcz169_0 : wc.cell? ⟨gb197, 0, none⟩ = some (.slice Ao35 t207.length co35) := (blk_cell BK197.out 0).trans rfl
                                  have hfz169_0 := blk_frozen BK197.out 0
                                  go_wp2_with (first | ((with_reducible refine gate_callee (f := 33) rfl ?_); refine goesL_ (some 98) rfl rfl Tryd.func33 (by kernel_rfl) rfl #[.agg #[.slice Ao35 t207.length co35], .int .i64 1] rfl (by (try simp only [List.map_toArray, List.map_cons, List.map_nil]); first | done | rfl | (simp only [List.length_drop, List.length_take]; rfl)) ?_; (with_reducible refine (laws_heldTable.calls kj105 _ _ t207 1 t218 _ ?side1 ?side2 A150.out).mono ?_); (case side1 => repeat (first | exact (Kd.R_reads' HO_198000.out).2.2 | (with_reducible refine Kd.C_alloc ?_ _) | (with_reducible refine Kd.C_drewN ?_ _) | (with_reducible refine Kd.C_drew ?_))); (case side2 => exact (Kd.R_reads' HO_198000.out).2.1); rintro e w170 ⟨rfl, hb⟩; refine ⟨_, rfl, ?_⟩; have n0_ := Aside0.mk (Kd.R_below (by (with_reducible repeat (first | apply Kd.R_alloc | apply Kd.R_drewN | apply Kd.R_drew)); exact HO_189000.out) hb); have n1_ := Aside0.mk (Kd.R_below (by (with_reducible repeat (first | apply Kd.R_alloc | apply Kd.R_drewN | apply Kd.R_drew)); exact HO_193000.out) hb); have n2_ := Aside0.mk (Kd.R_below (by (with_reducible repeat (first | apply Kd.R_alloc | apply Kd.R_drewN | apply Kd.R_drew)); exact HO_198000.out) hb); have n3_ := Aside0.mk (Kd.R_below (by (with_reducible repeat (first | apply Kd.R_alloc | apply Kd.R_drewN | apply Kd.R_drew)); exact HO_217000.out) hb); have n4_ := Aside0.mk (blk_below (g := gb179) (o := .cells #[.slice A0_0 l0_0.length c0_0] 24 (0, 0)) (by (with_reducible repeat (first | refine blk_drewN ?_ _ | refine blk_drew ?_ | refine blk_alloc ?_ _)); exact BK179.out) hb); have n5_ := Aside0.mk (blk_below (g := gb188) (o := .cells #[.slice Ao23 t184.length co23] 27 (0, 0)) (by (with_reducible repeat (first | refine blk_drewN ?_ _ | refine blk_drew ?_ | refine blk_alloc ?_ _)); exact BK188.out) hb); have n6_ := Aside0.mk (blk_below (g := gb192) (o := .cells #[.slice Ao29 t204.length co29] 27 (0, 0)) (by (with_reducible repeat (first | refine blk_drewN ?_ _ | refine blk_drew ?_ | refine blk_alloc ?_ _)); exact BK192.out) hb); have n7_ := Aside0.mk (blk_below (g := gb197) (o := .cells #[.slice Ao35 t207.length co35] 27 (0, 0)) (by (with_reducible repeat (first | refine blk_drewN ?_ _ | refine blk_drew ?_ | refine blk_alloc ?_ _)); exact BK197.out) hb); have n8_ := Aside0.mk (blk_below (g := gb216) (o := .cells #[.slice Ao121 t212.length co121] 27 (0, 0)) (by (with_reducible repeat (first | refine blk_drewN ?_ _ | refine blk_drew ?_ | refine blk_alloc ?_ _)); exact BK216.out) hb); have n9_ := Aside0.mk (below_step (by repeat (first | (with_reducible first | exact HB.out | apply below_alloc | apply pw_below_drewN | apply below_drew1 | refine below_set ?_ GE179.out | refine below_set ?_ GE188.out | refine below_set ?_ GE192.out | refine below_set ?_ GE197.out | refine below_set ?_ GE216.out) | exact HB.out)) hb); clear HO_189000; clear HO_193000; clear HO_198000; clear HO_217000; clear BK179; clear BK188; clear BK192; clear BK197; clear BK216; clear HB; have HO_189000 := n0_; have HO_193000 := n1_; have HO_198000 := n2_; have HO_217000 := n3_; have BK179 := n4_; have BK188 := n5_; have BK192 := n6_; have BK197 := n7_; have BK216 := n8_; have HB := n9_; clear n0_ n1_ n2_ n3_ n4_ n5_ n6_ n7_ n8_ n9_; (try clear hb); (try clear hb2); (try clear hk); (try clear hi)))
                                  go_ret
                                  exact ⟨by first | rfl | (simp [errW_none, errW_some] <;> rfl) | (simp [*, errW_none, errW_some] <;> rfl), by repeat (first | (with_reducible first | exact HB.out | apply below_alloc | apply pw_below_drewN | apply below_drew1 | refine below_set ?_ GE179.out | refine below_set ?_ GE188.out | refine below_set ?_ GE192.out | refine below_set ?_ GE197.out | refine below_set ?_ GE216.out) | exact HB.out)⟩
                      · rw [if_neg c103] at H
                        have c103b0 : (t208 == t206) = false := beq_eq_false_iff_ne.mpr c103
                        have c103b1 : (t208 != t206) = true := bne_iff_ne.mpr c103
                        obtain rfl := Option.some.inj H
                        have hnb171 := NB197_179.out
                        have hnc171 := NB179_197.out
                        have hnb172 := NB197_188.out
                        have hnc172 := NB188_197.out
                        have hnb173 := NB197_192.out
                        have hnc173 := NB192_197.out
                        have hcz174_0 : wc.cell? ⟨gb197, 0, none⟩ = some (.slice Ao35 t193.length co35) := (blk_cell BK197.out 0).trans rfl
                        have hfz174_0 := blk_frozen BK197.out 0
                        go_wp2_with (first | ((with_reducible refine gate_callee (f := 32) rfl ?_); refine goesL_ (some 71) rfl rfl Tryd.func32 (by kernel_rfl) rfl #[.agg #[.slice Ao35 t193.length co35], .int .i64 1] rfl (by (try simp only [List.map_toArray, List.map_cons, List.map_nil]); first | done | rfl | (simp only [List.length_drop, List.length_take]; rfl)) ?_; (with_reducible refine (laws_markTable.calls kj62 (fun k_ => some k_ = (.slice Ao35 t193.length co35 : Value).ownBlock) (.slice Ao35 t193.length co35) t193 1 t206 t207 w _ ?side1 ?side2 A93.out).mono ?_); (case side1 => repeat (first | (with_reducible first | exact HB.out | apply below_alloc | apply pw_below_drewN | apply below_drew1 | refine below_set ?_ GE179.out | refine below_set ?_ GE188.out | refine below_set ?_ GE192.out | refine below_set ?_ GE197.out) | exact HB.out)); (case side2 => exact Kd.R_tight rfl HO_198000.out); rintro e w175 ⟨rfl, hy0, hb, hkp⟩; refine ⟨_, rfl, ?_⟩; have n0_ := Aside0.mk (Kd.R_mono (ok' := fun k_ => some k_ ≠ (.slice Ao29 t204.length co29 : Value).ownBlock ∧ some k_ ≠ (.slice Ao35 t193.length co35 : Value).ownBlock) (Kd.R_keptB (HO_189000.out) hkp (fun k_ hk_ hs_ => (hk_.2) hs_)) (fun k_ hk_ => ⟨hk_.1.1, hk_.1.2⟩)); have n1_ := Aside0.mk (Kd.R_mono (ok' := fun k_ => some k_ ≠ (.slice Ao23 t184.length co23 : Value).ownBlock ∧ some k_ ≠ (.slice Ao35 t193.length co35 : Value).ownBlock) (Kd.R_keptB (HO_193000.out) hkp (fun k_ hk_ hs_ => (hk_.2) hs_)) (fun k_ hk_ => ⟨hk_.1.1, hk_.1.2⟩)); have n2_ := Aside0.mk (Kd.R_reok rfl hy0 (fun k_ e_ => HO_198000.out.1 k_ e_)); have n3_ := Aside0.mk (blk_kept (by (with_reducible repeat (first | refine blk_drewN ?_ _ | refine blk_drew ?_ | refine blk_alloc ?_ _)); exact BK179.out) hkp (fun hs_ => (fun e_ => (Kd.R_ne HO_198000.out BK179.out (by decide)) e_) hs_)); have n4_ := Aside0.mk (blk_kept (by (with_reducible repeat (first | refine blk_drewN ?_ _ | refine blk_drew ?_ | refine blk_alloc ?_ _)); exact BK188.out) hkp (fun hs_ => (fun e_ => (Kd.R_ne HO_198000.out BK188.out (by decide)) e_) hs_)); have n5_ := Aside0.mk (blk_kept (by (with_reducible repeat (first | refine blk_drewN ?_ _ | refine blk_drew ?_ | refine blk_alloc ?_ _)); exact BK192.out) hkp (fun hs_ => (fun e_ => (Kd.R_ne HO_198000.out BK192.out (by decide)) e_) hs_)); have n6_ := Aside0.mk (blk_kept (by (with_reducible repeat (first | refine blk_drewN ?_ _ | refine blk_drew ?_ | refine blk_alloc ?_ _)); exact BK197.out) hkp (fun hs_ => (fun e_ => (Kd.R_ne HO_198000.out BK197.out (by decide)) e_) hs_)); have n7_ := Aside0.mk (hb); clear HO_189000; clear HO_193000; clear HO_198000; clear BK179; clear BK188; clear BK192; clear BK197; clear HB; have HO_189000 := n0_; have HO_193000 := n1_; have HO_198000 := n2_; have BK179 := n3_; have BK188 := n4_; have BK192 := n5_; have BK197 := n6_; have HB := n7_; clear n0_ n1_ n2_ n3_ n4_ n5_ n6_ n7_; (try clear hb); (try clear hkp); (try clear hy0); have hcz176_0 : w175.cell? ⟨gb197, 0, none⟩ = some (.slice Ao35 t193.length co35) := (blk_cell BK197.out 0).trans rfl; have hfz176_0 := blk_frozen BK197.out 0) | ((with_reducible refine gate_callee (f := 33) rfl ?_); refine goesL_ (some 74) rfl rfl Tryd.func33 (by kernel_rfl) rfl #[.agg #[.slice Ao35 t207.length co35], .int .i64 1] rfl (by (try simp only [List.map_toArray, List.map_cons, List.map_nil]); first | done | (rw [show t207.length = t193.length from (Kd.R_reads' HO_198000.out).1.symm] <;> rfl) | rfl | (simp only [List.length_drop, List.length_take]; rfl)) ?_; (with_reducible refine (laws_heldTable.calls kj62 _ _ t207 1 t208 _ ?side1 ?side2 A94.out).mono ?_); (case side1 => repeat (first | exact (Kd.R_reads' HO_198000.out).2.2 | (with_reducible refine Kd.C_alloc ?_ _) | (with_reducible refine Kd.C_drewN ?_ _) | (with_reducible refine Kd.C_drew ?_))); (case side2 => rw [show t207.length = t193.length from (Kd.R_reads' HO_198000.out).1.symm]; exact (Kd.R_reads' HO_198000.out).2.1); rintro e w177 ⟨rfl, hb⟩; refine ⟨_, rfl, ?_⟩; have n0_ := Aside0.mk (Kd.R_below (by (with_reducible repeat (first | apply Kd.R_alloc | apply Kd.R_drewN | apply Kd.R_drew)); exact HO_189000.out) hb); have n1_ := Aside0.mk (Kd.R_below (by (with_reducible repeat (first | apply Kd.R_alloc | apply Kd.R_drewN | apply Kd.R_drew)); exact HO_193000.out) hb); have n2_ := Aside0.mk (Kd.R_below (by (with_reducible repeat (first | apply Kd.R_alloc | apply Kd.R_drewN | apply Kd.R_drew)); exact HO_198000.out) hb); have n3_ := Aside0.mk (blk_below (g := gb179) (o := .cells #[.slice A0_0 l0_0.length c0_0] 24 (0, 0)) (by (with_reducible repeat (first | refine blk_drewN ?_ _ | refine blk_drew ?_ | refine blk_alloc ?_ _)); exact BK179.out) hb); have n4_ := Aside0.mk (blk_below (g := gb188) (o := .cells #[.slice Ao23 t184.length co23] 27 (0, 0)) (by (with_reducible repeat (first | refine blk_drewN ?_ _ | refine blk_drew ?_ | refine blk_alloc ?_ _)); exact BK188.out) hb); have n5_ := Aside0.mk (blk_below (g := gb192) (o := .cells #[.slice Ao29 t204.length co29] 27 (0, 0)) (by (with_reducible repeat (first | refine blk_drewN ?_ _ | refine blk_drew ?_ | refine blk_alloc ?_ _)); exact BK192.out) hb); have n6_ := Aside0.mk (blk_below (g := gb197) (o := .cells #[.slice Ao35 t193.length co35] 27 (0, 0)) (by (with_reducible repeat (first | refine blk_drewN ?_ _ | refine blk_drew ?_ | refine blk_alloc ?_ _)); exact BK197.out) hb); have n7_ := Aside0.mk (below_step (by repeat (first | (with_reducible first | exact HB.out | apply below_alloc | apply pw_below_drewN | apply below_drew1 | refine below_set ?_ GE179.out | refine below_set ?_ GE188.out | refine below_set ?_ GE192.out | refine below_set ?_ GE197.out) | exact HB.out)) hb); clear HO_189000; clear HO_193000; clear HO_198000; clear BK179; clear BK188; clear BK192; clear BK197; clear HB; have HO_189000 := n0_; have HO_193000 := n1_; have HO_198000 := n2_; have BK179 := n3_; have BK188 := n4_; have BK192 := n5_; have BK197 := n6_; have HB := n7_; clear n0_ n1_ n2_ n3_ n4_ n5_ n6_ n7_; (try clear hb); (try clear hb2); (try clear hk); (try clear hi)))
                        go_ret
                        exact ⟨by first | rfl | (simp [errW_none, errW_some] <;> rfl) | (simp [*, errW_none, errW_some] <;> rfl), by repeat (first | (with_reducible first | exact HB.out | apply below_alloc | apply pw_below_drewN | apply below_drew1 | refine below_set ?_ GE179.out | refine below_set ?_ GE188.out | refine below_set ?_ GE192.out | refine below_set ?_ GE197.out) | exact HB.out)⟩
            · replace c61 := Bool.eq_false_iff.mpr c61
              subst c61
              have H1 : (some false) = some r := by rw [if_neg (show ¬ (false = true) by decide)] at H; exact H
              clear H
              have H := H1
              clear H1
              obtain rfl := Option.some.inj H
              try go_wp2
              have n0_ := Aside0.mk (Kd.R_drew HO_189000.out)
              have n1_ := Aside0.mk (Kd.R_drew HO_193000.out)
              have n2_ := Aside0.mk (Kd.R_drew HO_198000.out)
              have n3_ := Aside0.mk (blk_drew BK179.out)
              have n4_ := Aside0.mk (blk_drew BK188.out)
              have n5_ := Aside0.mk (blk_drew BK192.out)
              have n6_ := Aside0.mk (blk_drew BK197.out)
              have n7_ := Aside0.mk (below_drew1 HB.out)
              clear HO_189000
              clear HO_193000
              clear HO_198000
              clear BK179
              clear BK188
              clear BK192
              clear BK197
              clear HB
              have HO_189000 := n0_
              have HO_193000 := n1_
              have HO_198000 := n2_
              have BK179 := n3_
              have BK188 := n4_
              have BK192 := n5_
              have BK197 := n6_
              have HB := n7_
              clear n0_ n1_ n2_ n3_ n4_ n5_ n6_ n7_
              refine start_ (n := 5) (S := fun w' => w'.cell? ⟨gb192, 0, none⟩ = some (.slice Ao29 t189.length co29) ∧ w'.cell? ⟨gb179, 0, none⟩ = some (.slice A0_0 l0_0.length c0_0)) (ds := []) #[false, false, false, false, false] (by kernel_rfl) rfl rfl ⟨(blk_cell BK192.out 0).trans rfl, (blk_cell BK179.out 0).trans rfl⟩ (fun hHeld => ?_)
              generalize wc.drew = w178 at HO_189000 HO_193000 HO_198000 BK179 BK188 BK192 BK197 HB hHeld ⊢
              refine take_ (i := 0) (N := some 48) (v := ?_) (a' := ?_) #[true, false, false, false, false] rfl rfl (by kernel_rfl) (fun _ _ _ h => h) (Or.inl ⟨by rfl, ?_⟩) hHeld ?_ ?_
              rotate_left
              · rintro w' ⟨s0, s1⟩
                go_simp
                with_reducible rfl
              rotate_left
              · simp only [Act.put, List.setIfInBounds_toArray, List.set_cons_zero, List.set_cons_succ, i64_w, i32_w]
                rfl
              refine take_ (i := 1) (N := some 49) (v := ?_) (a' := ?_) #[true, true, false, false, false] rfl rfl (by kernel_rfl) (fun _ _ _ h => h) (Or.inl ⟨by rfl, ?_⟩) hHeld ?_ ?_
              rotate_left
              · rintro w' ⟨s0, s1⟩
                go_simp
                with_reducible rfl
              rotate_left
              · simp only [Act.put, List.setIfInBounds_toArray, List.set_cons_zero, List.set_cons_succ, i64_w, i32_w]
                rfl
              refine one_ (i := 2) (N := some 50) #[true, true, true, false, false] rfl rfl (by kernel_rfl) (by decide) (fun K hK => ?_)
              refine goes_ Tryd.func17 (by kernel_rfl) rfl #[.agg #[.slice A0_0 l0_0.length c0_0]] (by rfl) rfl rfl (by (try simp only [List.map_toArray, List.map_cons, List.map_nil]); first | done | rfl | (simp only [List.length_drop, List.length_take]; rfl)) ?_
              with_reducible refine (laws_toTable.calls kj13 _ _ l0_0 t199 _ ?side1 ?side2 A59.out).mono ?_
              (case side1 => repeat (first | exact (Kd.C_below HR0_0.out HB.out) | (with_reducible refine Kd.C_alloc ?_ _) | (with_reducible refine Kd.C_drewN ?_ _) | (with_reducible refine Kd.C_drew ?_)))
              (case side2 => exact HC0_0.out)
              rintro e w179 ⟨v200, rfl, ho0, hb⟩
              refine ⟨_, rfl, ?_⟩
              have n0_ := Aside0.mk (Kd.R_elder' (by (with_reducible repeat (first | apply Kd.R_alloc | apply Kd.R_drewN | apply Kd.R_drew)); exact HO_189000.out) (Kd.R_base ho0) hb)
              have n1_ := Aside0.mk (Kd.R_elder' (by (with_reducible repeat (first | apply Kd.R_alloc | apply Kd.R_drewN | apply Kd.R_drew)); exact HO_193000.out) (Kd.R_base ho0) hb)
              have n2_ := Aside0.mk (Kd.R_elder' (by (with_reducible repeat (first | apply Kd.R_alloc | apply Kd.R_drewN | apply Kd.R_drew)); exact HO_198000.out) (Kd.R_base ho0) hb)
              have n3_ := Aside0.mk (Kd.R_lower (Kd.R_new' (Kd.R_new' (Kd.R_new' ho0 (Kd.R_lt (by (with_reducible repeat (first | apply Kd.R_alloc | apply Kd.R_drewN | apply Kd.R_drew)); exact HO_189000.out))) (Kd.R_lt (by (with_reducible repeat (first | apply Kd.R_alloc | apply Kd.R_drewN | apply Kd.R_drew)); exact HO_193000.out))) (Kd.R_lt (by (with_reducible repeat (first | apply Kd.R_alloc | apply Kd.R_drewN | apply Kd.R_drew)); exact HO_198000.out))) (below_size (by repeat (first | (with_reducible first | exact HB.out | apply below_alloc | apply pw_below_drewN | apply below_drew1 | refine below_set ?_ GE179.out | refine below_set ?_ GE188.out | refine below_set ?_ GE192.out | refine below_set ?_ GE197.out) | exact HB.out))))
              have n4_ := Aside0.mk (blk_below (g := gb179) (o := .cells #[.slice A0_0 l0_0.length c0_0] 24 (0, 0)) (by (with_reducible repeat (first | refine blk_drewN ?_ _ | refine blk_drew ?_ | refine blk_alloc ?_ _)); exact BK179.out) hb)
              have n5_ := Aside0.mk (blk_below (g := gb188) (o := .cells #[.slice Ao23 t184.length co23] 27 (0, 0)) (by (with_reducible repeat (first | refine blk_drewN ?_ _ | refine blk_drew ?_ | refine blk_alloc ?_ _)); exact BK188.out) hb)
              have n6_ := Aside0.mk (blk_below (g := gb192) (o := .cells #[.slice Ao29 t189.length co29] 27 (0, 0)) (by (with_reducible repeat (first | refine blk_drewN ?_ _ | refine blk_drew ?_ | refine blk_alloc ?_ _)); exact BK192.out) hb)
              have n7_ := Aside0.mk (blk_below (g := gb197) (o := .cells #[.slice Ao35 t193.length co35] 27 (0, 0)) (by (with_reducible repeat (first | refine blk_drewN ?_ _ | refine blk_drew ?_ | refine blk_alloc ?_ _)); exact BK197.out) hb)
              have n8_ := Aside0.mk (below_step (by repeat (first | (with_reducible first | exact HB.out | apply below_alloc | apply pw_below_drewN | apply below_drew1 | refine below_set ?_ GE179.out | refine below_set ?_ GE188.out | refine below_set ?_ GE192.out | refine below_set ?_ GE197.out) | exact HB.out)) hb)
              clear HO_189000
              clear HO_193000
              clear HO_198000
              clear BK179
              clear BK188
              clear BK192
              clear BK197
              clear HB
              have HO_189000 := n0_
              have HO_193000 := n1_
              have HO_198000 := n2_
              have HO201 := n3_
              have BK179 := n4_
              have BK188 := n5_
              have BK192 := n6_
              have BK197 := n7_
              have HB := n8_
              clear n0_ n1_ n2_ n3_ n4_ n5_ n6_ n7_ n8_
              (try clear hb)
              (try clear hb2)
              (try clear hk)
              (try clear hi)
              (try clear ho0)
              obtain ⟨Ao180, co180, eo180⟩ := Kd.R_slice HO201.out
              (first | subst eo180 | (injection eo180 with f1_ f2_ f3_; have f4_ := f1_.symm; have f5_ := f3_.symm; clear f1_ f2_ f3_; subst f4_; subst f5_))
              refine hK.out _ _ ⟨(blk_cell BK192.out 0).trans rfl, (blk_cell BK179.out 0).trans rfl⟩ (fun hHeld => ?_)
              clear hK K
              refine norm_ (a' := ?_) ?_ ?_
              rotate_left
              · show Act.put _ (some 50) _ = _
                simp only [Act.put, List.setIfInBounds_toArray, List.set_cons_zero, List.set_cons_succ, i64_w, i32_w]
                rfl
              refine one_ (i := 3) (N := some 51) #[true, true, true, true, false] rfl rfl (by kernel_rfl) (by decide) (fun K hK => ?_)
              refine goes_ Tryd.func19 (by kernel_rfl) rfl #[.agg #[.slice Ao29 t189.length co29], .agg #[.slice Ao180 t199.length co180]] (by rfl) rfl rfl (by (try simp only [List.map_toArray, List.map_cons, List.map_nil]); first | done | rfl | (simp only [List.length_drop, List.length_take]; rfl)) ?_
              with_reducible refine (laws_eqTable.calls kj13 _ _ t189 _ _ t199 false _ ?side1 ?side2 ?side3 ?side4 A60.out).mono ?_
              (case side1 => repeat (first | exact (Kd.R_reads' HO_193000.out).2.2 | (with_reducible refine Kd.C_alloc ?_ _) | (with_reducible refine Kd.C_drewN ?_ _) | (with_reducible refine Kd.C_drew ?_)))
              (case side2 => exact (Kd.R_reads' HO_193000.out).2.1)
              (case side3 => repeat (first | exact (Kd.R_reads' HO201.out).2.2 | (with_reducible refine Kd.C_alloc ?_ _) | (with_reducible refine Kd.C_drewN ?_ _) | (with_reducible refine Kd.C_drew ?_)))
              (case side4 => exact (Kd.R_reads' HO201.out).2.1)
              rintro e w181 ⟨rfl, hb⟩
              refine ⟨_, rfl, ?_⟩
              have n0_ := Aside0.mk (Kd.R_below (by (with_reducible repeat (first | apply Kd.R_alloc | apply Kd.R_drewN | apply Kd.R_drew)); exact HO_189000.out) hb)
              have n1_ := Aside0.mk (Kd.R_below (by (with_reducible repeat (first | apply Kd.R_alloc | apply Kd.R_drewN | apply Kd.R_drew)); exact HO_193000.out) hb)
              have n2_ := Aside0.mk (Kd.R_below (by (with_reducible repeat (first | apply Kd.R_alloc | apply Kd.R_drewN | apply Kd.R_drew)); exact HO_198000.out) hb)
              have n3_ := Aside0.mk (Kd.R_below (by (with_reducible repeat (first | apply Kd.R_alloc | apply Kd.R_drewN | apply Kd.R_drew)); exact HO201.out) hb)
              have n4_ := Aside0.mk (blk_below (g := gb179) (o := .cells #[.slice A0_0 l0_0.length c0_0] 24 (0, 0)) (by (with_reducible repeat (first | refine blk_drewN ?_ _ | refine blk_drew ?_ | refine blk_alloc ?_ _)); exact BK179.out) hb)
              have n5_ := Aside0.mk (blk_below (g := gb188) (o := .cells #[.slice Ao23 t184.length co23] 27 (0, 0)) (by (with_reducible repeat (first | refine blk_drewN ?_ _ | refine blk_drew ?_ | refine blk_alloc ?_ _)); exact BK188.out) hb)
              have n6_ := Aside0.mk (blk_below (g := gb192) (o := .cells #[.slice Ao29 t189.length co29] 27 (0, 0)) (by (with_reducible repeat (first | refine blk_drewN ?_ _ | refine blk_drew ?_ | refine blk_alloc ?_ _)); exact BK192.out) hb)
              have n7_ := Aside0.mk (blk_below (g := gb197) (o := .cells #[.slice Ao35 t193.length co35] 27 (0, 0)) (by (with_reducible repeat (first | refine blk_drewN ?_ _ | refine blk_drew ?_ | refine blk_alloc ?_ _)); exact BK197.out) hb)
              have n8_ := Aside0.mk (below_step (by repeat (first | (with_reducible first | exact HB.out | apply below_alloc | apply pw_below_drewN | apply below_drew1 | refine below_set ?_ GE179.out | refine below_set ?_ GE188.out | refine below_set ?_ GE192.out | refine below_set ?_ GE197.out) | exact HB.out)) hb)
              clear HO_189000
              clear HO_193000
              clear HO_198000
              clear HO201
              clear BK179
              clear BK188
              clear BK192
              clear BK197
              clear HB
              have HO_189000 := n0_
              have HO_193000 := n1_
              have HO_198000 := n2_
              have HO201 := n3_
              have BK179 := n4_
              have BK188 := n5_
              have BK192 := n6_
              have BK197 := n7_
              have HB := n8_
              clear n0_ n1_ n2_ n3_ n4_ n5_ n6_ n7_ n8_
              (try clear hb)
              (try clear hb2)
              (try clear hk)
              (try clear hi)
              refine hK.out _ _ ⟨(blk_cell BK192.out 0).trans rfl, (blk_cell BK179.out 0).trans rfl⟩ (fun hHeld => ?_)
              clear hK K
              refine norm_ (a' := ?_) ?_ ?_
              rotate_left
              · show Act.put _ (some 51) _ = _
                simp only [Act.put, List.setIfInBounds_toArray, List.set_cons_zero, List.set_cons_succ, i64_w, i32_w]
                rfl
              refine pure_ (i := 4) (N := some 52) (v := ?_) (a' := ?_) #[true, true, true, true, true] rfl rfl (by kernel_rfl) (fun _ _ _ h => h) (Or.inl ⟨by rfl, ?_⟩) ?_ ?_
              rotate_left
              · intro w'
                go_simp
                with_reducible rfl
              rotate_left
              · simp only [Act.put, List.setIfInBounds_toArray, List.set_cons_zero, List.set_cons_succ, i64_w, i32_w]
                rfl
              refine done_ (by kernel_rfl) ?_
              try go_wp2
              go_ret
              exact ⟨by first | rfl | (simp [errW_none, errW_some] <;> rfl) | (simp [*, errW_none, errW_some] <;> rfl), by repeat (first | (with_reducible first | exact HB.out | apply below_alloc | apply pw_below_drewN | apply below_drew1 | refine below_set ?_ GE179.out | refine below_set ?_ GE188.out | refine below_set ?_ GE192.out | refine below_set ?_ GE197.out) | exact HB.out)⟩

/-- THE ONE PURE STATEMENT of laws_FnExactAddLetter: yours. -/
def laws_FnExactAddLetter.Pure : Prop := ∀ (l0_0 : List ByteArray) (a1 : ByteArray), l0_0.length ≤ maxLen → (∀ x ∈ l0_0, x.size ≤ maxLen) → a1.size ≤ 140737488351232 → ∃ k, laws_FnExactAddLetter.f k l0_0 a1 = some true

end Go.Proofs.YtajocpgghdmimaaDoor.HFnExactAddLetter
