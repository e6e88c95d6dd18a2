/- What the machine does at each Go function that the law reaches is what the Lean function of its name says. -/
import Derived.Test.YtpdojionnmehbaaGreatDoorHFnExactFirstMisleadingx0
namespace Go.Proofs.YtpdojionnmehbaaGreatDoor.HFnExactFirstMisleading
open Go.RowKit Go.Proofs.YtpdojionnmehbaaGreatDoorW.PrintWords Go.Proofs.YtpdojionnmehbaaGreatDoorW.PrintLast Go.Proofs.YtpdojionnmehbaaGreatDoorW.PrintMore
attribute [local go_sem] max2_int min2_int max_two min_two max_three min_three max_four min_four   -- for this text's walks alone
set_option linter.unusedVariables false
set_option linter.unusedSimpArgs false

/-! ### impl_opposite: function 30 (by hand) -/
/-! sync.Once, not yet done, its lock free: one goroutine -/
theorem impl_opposite.disable (w : World) : (callFunc 108 #[]).run Tryz.prog w = .ok (.value (.tuple #[])) w := run_call_mark0 Tryz.func108 (by kernel_rfl) (by kernel_rfl) (by kernel_rfl) .disable (by kernel_rfl) w
theorem impl_opposite.enable (w : World) : (callFunc 110 #[]).run Tryz.prog w = .ok (.value (.tuple #[])) w := run_call_mark0 Tryz.func110 (by kernel_rfl) (by kernel_rfl) (by kernel_rfl) .enable (by kernel_rfl) w
theorem impl_opposite.acquire (a : Addr) (w : World) : (callFunc 111 #[.pointer (some a)]).run Tryz.prog w = .ok (.value (.tuple #[])) w := run_call_marked Tryz.func111 (by kernel_rfl) (by kernel_rfl) (by kernel_rfl) .acquire (by kernel_rfl) a w
theorem impl_opposite.releaseMerge (a : Addr) (w : World) : (callFunc 113 #[.pointer (some a)]).run Tryz.prog w = .ok (.value (.tuple #[])) w := run_call_marked Tryz.func113 (by kernel_rfl) (by kernel_rfl) (by kernel_rfl) .releaseMerge (by kernel_rfl) a w
set_option maxRecDepth 100000 in
/-- Store(true) of an atomic bool, entered as a deferred call. -/
theorem impl_opposite.store_deferred (a : Addr) (x : Value) (u : FrameMode) (w : World) (hc : w.cell? a = some x) (hz : w.frozen? a = false) :
    CallsD Tryz.prog 88 #[.pointer (some a), .bool true] u w fun e u' w' => u' = u ∧ (e = .returned (.tuple #[]) ∧ w' = w.drew.setCell a (.int .u32 1)) := by
  have hc' : w.drew.cell? a = some x := by go_simp
  have hz' : w.drew.frozen? a = false := by go_simp
  have hst := run_call_store (P := Tryz.prog) Tryz.func100 (by kernel_rfl) (by kernel_rfl) (by kernel_rfl) (by kernel_rfl) (k := .u32) (y := 1) hc' hz'
  go_enter_d Tryz.func88, Tryz.ntmps88
  go_wp2
  go_region_calls
  all_goals (go_end0; exact ⟨rfl, rfl⟩)
set_option maxRecDepth 100000 in
/-- Unlock, entered as a deferred call, the lock held and nobody waiting. -/
theorem impl_opposite.unlock_deferred (a : Addr) (u : FrameMode) (w : World) (hc : w.cell? a = some (.int .i32 1)) (hz : w.frozen? a = false) :
    CallsD Tryz.prog 87 #[.pointer (some a)] u w fun e u' w' => u' = u ∧ (e = .returned (.tuple #[]) ∧ w' = w.setCell a (.int .i32 0)) := by
  have hd := impl_opposite.disable
  have he := impl_opposite.enable
  have hr := impl_opposite.releaseMerge
  have hadd := run_call_add (P := Tryz.prog) Tryz.func114 (by kernel_rfl) (by kernel_rfl) (by kernel_rfl) .i32 (by kernel_rfl) (y := -1) (s := 0) hc hz (by simp [go_sem]; rfl)
  have hcv := run_convert_to_unsafe (P := Tryz.prog) (src := 166) (dst := 139) Tryz.underlying166 Tryz.underlying139 (by kernel_rfl) hc
  go_enter_d Tryz.func87, Tryz.ntmps87
  go_wp2
  go_end0
  go_wp2
  go_end0
  exact ⟨rfl, rfl⟩
set_option maxRecDepth 100000 in
/-- Lock, the lock free. -/
theorem impl_opposite.lock_free (a : Addr) (w : World) (hc : w.cell? a = some (.int .i32 0)) (hz : w.frozen? a = false) :
    Calls Tryz.prog 86 #[.pointer (some a)] w fun e w' => e = .returned (.tuple #[]) ∧ w' = w.setCell a (.int .i32 1) := by
  have hd := impl_opposite.disable
  have he := impl_opposite.enable
  have ha := impl_opposite.acquire
  have hcas := run_call_cas_hit (P := Tryz.prog) Tryz.func109 (by kernel_rfl) (by kernel_rfl) (by kernel_rfl) .i32 (by kernel_rfl) (y := 1) hc hz
  have hc' : (w.setCell a (.int .i32 1)).cell? a = some (.int .i32 1) := World.cell?_setCell_same w a _ hc
  have hcv := run_convert_to_unsafe (P := Tryz.prog) (src := 166) (dst := 139) Tryz.underlying166 Tryz.underlying139 (by kernel_rfl) hc'
  go_enter Tryz.func86, Tryz.ntmps86
  go_wp2
  first | go_end0 | (simp only [Exit.inBlock, Exit.then]; refine bodyPost_ret (results_none rfl _ _ _) rfl ?_) | refine bodyPost_ret (results_none rfl _ _ _) rfl ?_
  go_wp2
  go_end0
  exact ⟨rfl, rfl⟩
set_option maxRecDepth 100000 in
set_option maxHeartbeats 4000000 in
/-- the slow road: the lock is taken, the function is called; then what was put off -/
theorem impl_opposite.slow (b : Nat) (W : World) (h0 : W.cell? ⟨b, 0, none⟩ = some (.int .u32 0)) (h1 : W.cell? ⟨b, 1, none⟩ = some (.int .i32 0)) (f0 : W.frozen? ⟨b, 0, none⟩ = false) (f1 : W.frozen? ⟨b, 1, none⟩ = false) (Post : World → Prop)
    (hf : Calls Tryz.prog 62 #[.pointer (some ⟨b, 0, none⟩)] (W.setCell ⟨b, 1, none⟩ (.int .i32 1)) fun e w' => e = .returned (.tuple #[]) ∧ w'.cell? ⟨b, 0, none⟩ = some (.int .u32 0) ∧ w'.cell? ⟨b, 1, none⟩ = some (.int .i32 1) ∧ w'.frozen? ⟨b, 0, none⟩ = false ∧ w'.frozen? ⟨b, 1, none⟩ = false ∧ Aside0 (Post w')) :
    Calls Tryz.prog 76 #[.pointer (some ⟨b, 0, none⟩), .func (.func 62) #[.pointer (some ⟨b, 0, none⟩)] #[]] W fun e w' => e = .returned (.tuple #[]) ∧ ∃ w1, Aside0 (Post w1) ∧ w' = (w1.drew.setCell ⟨b, 0, none⟩ (.int .u32 1)).setCell ⟨b, 1, none⟩ (.int .i32 0) := by
  have hl := run_call_load (P := Tryz.prog) Tryz.func85 (by kernel_rfl) (by kernel_rfl) (by kernel_rfl) .u32 (by kernel_rfl) (w := W.setCell ⟨b, 1, none⟩ (.int .i32 1)) (a := ⟨b, 0, none⟩) (x := 0) ((World.cell?_setCell_other _ ⟨b, 1, none⟩ ⟨b, 0, none⟩ _ (by simp)).trans h0)
  have hnot : ∀ (x : Bool) (w : World), (Op.unary .not (.bool x)).run Tryz.prog w = .ok (.bool (!x)) w := fun _ _ => rfl
  have HF := Aside0.mk hf
  clear hf
  go_enter_defers Tryz.func76, Tryz.ntmps76
  go_wp2_with (first | (go_at_call 86; refine (impl_opposite.lock_free ⟨b, 1, none⟩ _ (by go_simp) (by go_simp)).mono ?_; rintro e w' ⟨rfl, rfl⟩) | (go_at_call 75; go_in) | (go_at_call 62; refine HF.out.mono ?_; rintro e w1 ⟨rfl, g0, g1, z0, z1, hp⟩))
  -- the door: two deferred calls, the last laid first
  refine leaves_cons (f := 88) (args := #[.pointer (some ⟨b, 0, none⟩), .bool true]) (by simp) (by simp [go_sem]) ?_
  refine (impl_opposite.store_deferred ⟨b, 0, none⟩ (.int .u32 0) .returning _ g0 z0).mono ?_
  rintro e u' w'' ⟨rfl, rfl, rfl⟩
  refine leaves_cons (f := 87) (args := #[.pointer (some ⟨b, 1, none⟩)]) (by simp [settle]) (by simp [go_sem]) ?_
  refine (impl_opposite.unlock_deferred ⟨b, 1, none⟩ _ _ ?_ ?_).mono ?_
  · refine (World.cell?_setCell_other _ ⟨b, 0, none⟩ ⟨b, 1, none⟩ _ (by simp)).trans ?_
    rw [World.cell?_drew]
    exact g1
  · rw [World.frozen?_setCell, World.frozen?_drew]
    exact z1
  rintro e u' w'' ⟨rfl, rfl, rfl⟩
  have hend : ∃ w2, Aside0 (Post w2) ∧ (w1.drew.setCell ⟨b, 0, none⟩ (.int .u32 1)).setCell ⟨b, 1, none⟩ (.int .i32 0) = (w2.drew.setCell ⟨b, 0, none⟩ (.int .u32 1)).setCell ⟨b, 1, none⟩ (.int .i32 0) := ⟨w1, hp, rfl⟩
  have HE := Aside0.mk hend
  clear hend hp g0 g1 z0 z1
  simp [Leaves, settle, results, Tryz.results76]
  exact HE.out
set_option maxRecDepth 100000 in
set_option maxHeartbeats 4000000 in
/-- the first call of Do -/
theorem impl_opposite.once (b : Nat) (W : World) (h0 : W.cell? ⟨b, 0, none⟩ = some (.int .u32 0)) (h1 : W.cell? ⟨b, 1, none⟩ = some (.int .i32 0)) (f0 : W.frozen? ⟨b, 0, none⟩ = false) (f1 : W.frozen? ⟨b, 1, none⟩ = false) (Post : World → Prop)
    (hf : Calls Tryz.prog 62 #[.pointer (some ⟨b, 0, none⟩)] (W.setCell ⟨b, 1, none⟩ (.int .i32 1)) fun e w' => e = .returned (.tuple #[]) ∧ w'.cell? ⟨b, 0, none⟩ = some (.int .u32 0) ∧ w'.cell? ⟨b, 1, none⟩ = some (.int .i32 1) ∧ w'.frozen? ⟨b, 0, none⟩ = false ∧ w'.frozen? ⟨b, 1, none⟩ = false ∧ Aside0 (Post w')) :
    Calls Tryz.prog 61 #[.pointer (some ⟨b, 0, none⟩), .func (.func 62) #[.pointer (some ⟨b, 0, none⟩)] #[]] W fun e w' => e = .returned (.tuple #[]) ∧ ∃ w1, Aside0 (Post w1) ∧ w' = (w1.drew.setCell ⟨b, 0, none⟩ (.int .u32 1)).setCell ⟨b, 1, none⟩ (.int .i32 0) := by
  have hl := run_call_load (P := Tryz.prog) Tryz.func85 (by kernel_rfl) (by kernel_rfl) (by kernel_rfl) .u32 (by kernel_rfl) h0
  have hnot : ∀ (x : Bool) (w : World), (Op.unary .not (.bool x)).run Tryz.prog w = .ok (.bool (!x)) w := fun _ _ => rfl
  have HS := Aside0.mk (impl_opposite.slow b W h0 h1 f0 f1 Post hf)
  clear hf
  go_enter Tryz.func61, Tryz.ntmps61
  go_wp2_with (first | (go_at_call 76; refine HS.out.mono ?_; rintro e w' ⟨rfl, w1, hp, rfl⟩) | (go_at_call 75; go_in))
  go_end0
  exact ⟨rfl, w1, hp, rfl⟩
theorem impl_opposite.infoS : ∃ i, Tryz.prog.info? 9 = some i ∧ i.zero = some (.string ⟨#[]⟩) ∧ i.size = 1 ∧ i.bytes = 16 := by
  have h : (Tryz.prog.info? 9).map (fun i => (i.zero, i.size, i.bytes)) = some (some (.string ⟨#[]⟩), 1, 16) := by kernel_rfl
  obtain ⟨i, hi, he⟩ := Option.map_eq_some_iff.1 h
  simp only [Prod.mk.injEq] at he
  exact ⟨i, hi, he⟩
theorem impl_opposite.own4 {w : World} {base : Nat} {v : Value} {s0 s1 s2 s3 : ByteArray} (h : w.ownsRow base 9 1 v (0 + 4) ([] ++ [.string s0, .string s1, .string s2, .string s3])) : ∃ g cap, v = .slice (some ⟨g, 0, none⟩) 4 cap ∧ base ≤ g ∧ g < w.heap.size ∧ w.cell? ⟨g, 0, none⟩ = some (.string s0) ∧ w.cell? ⟨g, 1, none⟩ = some (.string s1) ∧ w.cell? ⟨g, 2, none⟩ = some (.string s2) ∧ w.cell? ⟨g, 3, none⟩ = some (.string s3) := by
  obtain ⟨g, cap, rfl⟩ : ∃ g cap, v = .slice (some ⟨g, 0, none⟩) 4 cap := by
    rcases h.2 with ⟨_, h'⟩ | ⟨g, cap, cur, h', _⟩
    · omega
    · exact ⟨g, cap, h'⟩
  have hl := h.lt g rfl
  refine ⟨g, cap, rfl, hl.1, hl.2, ?_, ?_, ?_, ?_⟩
  · rw [World.ownsRow.cellAt h 0 (by omega)]; rfl
  · rw [World.ownsRow.cellAt h 1 (by omega)]; rfl
  · rw [World.ownsRow.cellAt h 2 (by omega)]; rfl
  · rw [World.ownsRow.cellAt h 3 (by omega)]; rfl
theorem impl_opposite.src4 {W : World} {a : Nat} {s0 s1 s2 s3 : ByteArray} (h0 : W.cell? ⟨a, 0, none⟩ = some (.string s0)) (h1 : W.cell? ⟨a, 1, none⟩ = some (.string s1)) (h2 : W.cell? ⟨a, 2, none⟩ = some (.string s2)) (h3 : W.cell? ⟨a, 3, none⟩ = some (.string s3)) (j : Nat) (u : Value) (hu : [Value.string s0, .string s1, .string s2, .string s3][j]? = some u) : W.cell? (Addr.add ⟨a, 0, none⟩ j) = some u := by
  match j, hu with
  | 0, hu => obtain rfl : Value.string s0 = u := by simpa using hu
             exact h0
  | 1, hu => obtain rfl : Value.string s1 = u := by simpa using hu
             exact h1
  | 2, hu => obtain rfl : Value.string s2 = u := by simpa using hu
             exact h2
  | 3, hu => obtain rfl : Value.string s3 = u := by simpa using hu
             exact h3
  | n + 4, hu => simp at hu
set_option maxRecDepth 100000 in
set_option maxHeartbeats 4000000 in
theorem impl_opposite.newRep (a : Nat) (s0 s1 s2 s3 : ByteArray) (W : World) (h0 : W.cell? ⟨a, 0, none⟩ = some (.string s0)) (h1 : W.cell? ⟨a, 1, none⟩ = some (.string s1)) (h2 : W.cell? ⟨a, 2, none⟩ = some (.string s2)) (h3 : W.cell? ⟨a, 3, none⟩ = some (.string s3)) :
    Calls Tryz.prog 51 #[.slice (some ⟨a, 0, none⟩) 4 4] W fun e w' => ∃ b g cap, e = .returned (.pointer (some ⟨b, 0, none⟩)) ∧ w'.heap[b]? = some (.cells #[.int .u32 0, .int .i32 0, .int .u32 0, .nilIface, .slice (some ⟨g, 0, none⟩) 4 cap] 79 (0, 0)) ∧ w'.cell? ⟨g, 0, none⟩ = some (.string s0) ∧ w'.cell? ⟨g, 1, none⟩ = some (.string s1) ∧ w'.cell? ⟨g, 2, none⟩ = some (.string s2) ∧ w'.cell? ⟨g, 3, none⟩ = some (.string s3) ∧ W.heap.size ≤ b ∧ W.heap.size ≤ g ∧ Below W.heap.size W w' := by
  obtain ⟨iS, hi, hz, hs, hb⟩ := impl_opposite.infoS
  have IS := Aside0.mk hi
  have ZS := Aside0.mk hz
  have SS := Aside0.mk hs
  have BS := Aside0.mk hb
  have H0 := Aside0.mk h0
  have H1 := Aside0.mk h1
  have H2 := Aside0.mk h2
  have H3 := Aside0.mk h3
  clear hi hz hs hb h0 h1 h2 h3
  have hrem : Int.tmod 4 2 = 0 := by decide
  go_enter Tryz.func51, Tryz.ntmps51
  go_wp2_with (at_builtin; (refine wpList_append_own _ rfl _ _ 22 rfl W.heap.size 9 iS (.string ⟨#[]⟩) 1 16 Tryz.underlying22 IS.out ZS.out SS.out BS.out rfl (by decide) (.slice none 0 0) 0 [] rfl (World.ownsRow_nil _ _ _ _) ⟨a, 0, none⟩ 4 4 [.string s0, .string s1, .string s2, .string s3] rfl rfl (impl_opposite.src4 H0.out H1.out H2.out H3.out) (fun u hu => by simp at hu; rcases hu with rfl | rfl | rfl | rfl <;> rfl) (by unfold maxLen; omega) (by omega) (Nat.le_refl _) ?_); intro v1 w1 hown hgrow hiff; have HGR := Aside0.mk hgrow; clear hgrow hiff; obtain ⟨g, cap, rfl, hg1, hg2, c0, c1, c2, c3⟩ := impl_opposite.own4 hown; have HG := Aside0.mk hg1; have HG2 := Aside0.mk hg2; have C0 := Aside0.mk c0; have C1 := Aside0.mk c1; have C2 := Aside0.mk c2; have C3 := Aside0.mk c3; clear hown hg1 hg2 c0 c1 c2 c3)
  go_ret
  have hb1 : Below W.heap.size W w1 := pw_below_grown (Below.refl _ _) none (Nat.le_refl _) HGR.out (fun k hk => by cases hk)
  have ha : ∀ o, Below w1.heap.size w1 (w1.alloc o) := fun o => below_alloc (Below.refl _ _) o
  exact ⟨w1.heap.size, g, cap, rfl, heap_alloc_new w1 _, pw_cell_below (ha _) C0.out, pw_cell_below (ha _) C1.out, pw_cell_below (ha _) C2.out, pw_cell_below (ha _) C3.out, hb1.size, HG.out, below_step hb1 (ha _)⟩
theorem impl_opposite.bel_set {B b : Nat} {a : World} : ∀ {w : World}, Below B a w → B ≤ b → ∀ (o : Nat) (vs : List Value), Below B a (w.setCells b o vs)
  | _, h, _, _, [] => h
  | _, h, hb, o, v :: r => impl_opposite.bel_set (h.setCell (p := ⟨b, o, none⟩) hb v) hb (o + 1) r
theorem impl_opposite.set_cells {w : World} {n : Nat} {f : Nat → Int} (h : ∀ j, j < 256 → w.cell? ⟨n, j, none⟩ = some (.int .u8 (f j))) (k : Nat) (hk : k < 256) (v : Int) (j : Nat) (hj : j < 256) : (w.setCell ⟨n, k, none⟩ (.int .u8 v)).cell? ⟨n, j, none⟩ = some (.int .u8 (if j = k then v else f j)) := by
  by_cases e : j = k
  · subst e
    rw [World.cell?_setCell_same _ _ _ (h j hk), if_pos rfl]
  · rw [World.cell?_setCell_other _ _ _ _ (fun q => e (congrArg Addr.off q).symm), h j hj, if_neg e]
def impl_opposite.tb (k j : Nat) : Int := if j = 45 ∧ 1 ≤ k then 46 else if j = 46 ∧ 2 ≤ k then 45 else (j : Int)
theorem impl_opposite.zeros (W : World) : ∃ W2, (storeCells ⟨W.heap.size, 0, none⟩ Tryz.zeroCells122.toList).run Tryz.prog (W.alloc (.cells Tryz.zeroCells122 122)) = .ok () W2 ∧ (∀ j, j < 256 → W2.cell? ⟨W.heap.size, j, none⟩ = some (.int .u8 0)) ∧ (∀ j, W2.frozen? ⟨W.heap.size, j, none⟩ = false) ∧ Below W.heap.size W W2 := by
  have hz : Tryz.zeroCells122.toList = List.replicate 256 (.int .u8 0) := by kernel_rfl
  have hz2 : Tryz.zeroCells122 = (List.replicate 256 (.int .u8 0)).toArray := by rw [← hz]
  have hnew := heap_alloc_new W (.cells (List.replicate 256 (Value.int .u8 0)).toArray 122)
  have hcell : ∀ j, j < 256 → (W.alloc (.cells (List.replicate 256 (Value.int .u8 0)).toArray 122)).cell? ⟨W.heap.size, j, none⟩ = some (.int .u8 0) := fun j hj => by
    rw [cell_of_row _ _ _ _ _ (0, 0) hnew]
    show (List.replicate 256 (Value.int .u8 0)).toArray[j]? = _
    rw [List.getElem?_toArray, List.getElem?_replicate, if_pos hj]
  have hfz : ∀ j, (W.alloc (.cells (List.replicate 256 (Value.int .u8 0)).toArray 122)).frozen? ⟨W.heap.size, j, none⟩ = false := fun j => frozen_of_row _ _ j _ _ hnew
  have hl : (List.replicate 256 (Value.int .u8 0)).length = 256 := List.length_replicate
  rw [hz, hz2]
  refine ⟨_, run_storeCells_cells (P := Tryz.prog) W.heap.size 0 (List.replicate 256 (Value.int .u8 0)) 0 _ (fun j hj => ?_) (fun j hj => ?_) (fun v hv => ?_), fun j hj => ?_, fun j => ?_, ?_⟩
  · rw [hl] at hj
    rw [show 0 + 0 + j = j by omega, hcell j hj]; rfl
  · rw [show 0 + 0 + j = j by omega]; exact hfz j
  · rw [List.eq_of_mem_replicate hv]; rfl
  · have h := World.cell?_setCells_in W.heap.size (List.replicate 256 (Value.int .u8 0)) (0 + 0) (W.alloc (.cells (List.replicate 256 (Value.int .u8 0)).toArray 122)) (fun j hj => by rw [hl] at hj; rw [show 0 + 0 + j = j by omega, hcell j hj]; rfl) j (by rw [hl]; exact hj)
    rw [show 0 + 0 + j = j by omega] at h
    rw [h, List.getElem_replicate]
  · rw [World.frozen?_setCells]; exact hfz j
  · refine impl_opposite.bel_set (below_alloc (Below.refl _ _) _) (Nat.le_refl _) _ _
def impl_opposite.tab (j : Nat) : Int := if j = 45 then 46 else if j = 46 then 45 else (j : Int)
/-- the table of bytes lies at t -/
def impl_opposite.ready (B t : Nat) (w' : World) : Prop := B ≤ t ∧ ∀ j, j < 256 → w'.cell? ⟨t, j, none⟩ = some (.int .u8 (impl_opposite.tab j))
set_option maxRecDepth 100000 in
set_option maxHeartbeats 8000000 in
theorem impl_opposite.build (b g cap : Nat) (W : World) (hc : W.cell? ⟨b, 4, none⟩ = some (.slice (some ⟨g, 0, none⟩) 4 cap)) (h0 : W.cell? ⟨g, 0, none⟩ = some (.string ⟨#[46]⟩)) (h1 : W.cell? ⟨g, 1, none⟩ = some (.string ⟨#[45]⟩)) (h2 : W.cell? ⟨g, 2, none⟩ = some (.string ⟨#[45]⟩)) (h3 : W.cell? ⟨g, 3, none⟩ = some (.string ⟨#[46]⟩)) :
    Calls Tryz.prog 77 #[.pointer (some ⟨b, 0, none⟩)] W fun e w' => ∃ t, e = .returned (.iface 123 (.pointer (some ⟨t, 0, none⟩))) ∧ impl_opposite.ready W.heap.size t w' ∧ Below W.heap.size W w' := by
  go_enter Tryz.func77, Tryz.ntmps77
  go_wp2_with fail
  go_loopg [4, 5] 2 (fun gg v4 v5 w' => ∃ k : Nat, k ≤ 2 ∧ 2 - k ≤ gg ∧ v4 = .bool true ∧ v5 = .int .i64 ((2 * k : Nat) : Int) ∧ w' = W)
  case atStart => exact ⟨0, by omega, by omega, rfl, rfl, rfl⟩
  case round =>
    obtain ⟨k, hk, hg, rfl, rfl, rfl⟩ := hrel
    match k, hk with
    | 0, _ =>
      go_wp2_with fail
      go_roundg 1
      case measure => omega
      case rel => exact ⟨1, by omega, by omega, rfl, rfl, rfl⟩
    | 1, _ =>
      go_wp2_with fail
      go_roundg 0
      case measure => omega
      case rel => exact ⟨2, by omega, by omega, rfl, rfl, rfl⟩
    | 2, _ =>
      obtain ⟨W2, hst, hz, hf, hb⟩ := impl_opposite.zeros wr
      have HZ := Aside0.mk hz
      have HF := Aside0.mk hf
      have HB := Aside0.mk hb
      clear hz hf hb
      have e4 : ((2 * 2 : Nat) : Int) = 4 := rfl
      go_wp2_with fail
      clear hst
      go_loopg [61] 256 (fun gg v61 w' => ∃ k : Nat, k ≤ 256 ∧ 256 - k ≤ gg ∧ v61 = .int .i64 (k : Int) ∧ Aside0 (∀ j, j < 256 → w'.cell? ⟨wr.heap.size, j, none⟩ = some (.int .u8 (if j < k then (j : Int) else 0))) ∧ Aside0 (∀ j, w'.frozen? ⟨wr.heap.size, j, none⟩ = false) ∧ Aside0 (Below wr.heap.size wr w'))
      case atStart => exact ⟨0, by omega, by omega, rfl, ⟨fun j hj => by rw [HZ.out j hj, if_neg (by omega)]⟩, HF, HB⟩
      case round =>
        clear HZ HF HB
        obtain ⟨k, hk, hg, rfl, HZ, HF, HB⟩ := hrel
        by_cases hlt : k < 256
        · have hltz : (k : Int) < 256 := by omega
          have k0 : (0 : Int) ≤ (k : Int) := by omega
          have hw8 : IntKind.u8.wrap (k : Int) = (k : Int) := by rw [IntKind.wrap_u8]; omega
          have hc1 := HZ.out k hlt
          have hf1 := HF.out k
          rw [if_neg (by omega)] at hc1
          go_wp2_with fail
          go_roundg (256 - (k + 1))
          case measure => omega
          case rel => exact ⟨k + 1, by omega, by omega, by go_num, ⟨fun j hj => by
            rw [impl_opposite.set_cells HZ.out k hlt (k : Int) j hj]
            by_cases e : j = k
            · subst e; rw [if_pos rfl, if_pos (by omega)]
            · rw [if_neg e]
              by_cases e2 : j < k
              · rw [if_pos e2, if_pos (by omega)]
              · rw [if_neg e2, if_neg (by omega)]⟩, ⟨fun j => by rw [World.frozen?_setCell]; exact HF.out j⟩, ⟨HB.out.setCell (p := ⟨_, k, none⟩) (Nat.le_refl _) _⟩⟩
        · have : k = 256 := by omega
          subst this
          have hltz : ¬ (((256 : Nat) : Int) < 256) := by omega
          have c0 := pw_cell_below HB.out h0
          have c1 := pw_cell_below HB.out h1
          have c2 := pw_cell_below HB.out h2
          have c3 := pw_cell_below HB.out h3
          have HZ2 : Aside0 (∀ j, j < 256 → wr.cell? ⟨_, j, none⟩ = some (.int .u8 (impl_opposite.tb 0 j))) := ⟨fun j hj => by
            rw [HZ.out j hj, if_pos hj]
            unfold impl_opposite.tb
            rw [if_neg (by omega), if_neg (by omega)]⟩
          clear HZ
          have e45 : ∀ (h : 0 < (⟨#[45]⟩ : ByteArray).size), ((⟨#[45]⟩ : ByteArray)[0]'h).toNat = 45 := fun _ => rfl
          have e46 : ∀ (h : 0 < (⟨#[46]⟩ : ByteArray).size), ((⟨#[46]⟩ : ByteArray)[0]'h).toNat = 46 := fun _ => rfl
          go_wp2_with fail
          go_loopg [8] 2 (fun gg v8 w' => ∃ k : Nat, k ≤ 2 ∧ 2 - k ≤ gg ∧ v8 = .int .i64 (2 - 2 * (k : Int)) ∧ Aside0 (∀ j, j < 256 → w'.cell? ⟨_, j, none⟩ = some (.int .u8 (impl_opposite.tb k j))) ∧ Aside0 (∀ j, w'.frozen? ⟨_, j, none⟩ = false) ∧ Aside0 (Below _ _ w'))
          case atStart => exact ⟨0, by omega, by omega, by first | rfl | (simp; done), HZ2, HF, HB⟩
          case round =>
            clear HZ2 HF HB c0 c1 c2 c3
            obtain ⟨k, hk, hg, rfl, HZ, HF, HB⟩ := hrel
            have c0 := pw_cell_below HB.out h0
            have c1 := pw_cell_below HB.out h1
            have c2 := pw_cell_below HB.out h2
            have c3 := pw_cell_below HB.out h3
            match k, hk with
            | 0, _ =>
              have hc1 := HZ.out 45 (by omega)
              have hf1 := HF.out 45
              go_wp2_with fail
              go_roundg 1
              case measure => omega
              case rel => exact ⟨1, by omega, by omega, by first | rfl | (simp; done), ⟨fun j hj => by
                rw [impl_opposite.set_cells HZ.out 45 (by omega) 46 j hj]
                unfold impl_opposite.tb
                by_cases e : j = 45
                · subst e; rfl
                · rw [if_neg e]
                  by_cases e2 : j = 46
                  · subst e2; rfl
                  · simp only [e, e2, false_and, if_false]⟩, ⟨fun j => by rw [World.frozen?_setCell]; exact HF.out j⟩, ⟨HB.out.setCell (p := ⟨_, 45, none⟩) (Nat.le_refl _) _⟩⟩
            | 1, _ =>
              have hc1 := HZ.out 46 (by omega)
              have hf1 := HF.out 46
              go_wp2_with fail
              go_roundg 0
              case measure => omega
              case rel => exact ⟨2, by omega, by omega, by first | rfl | (simp; done), ⟨fun j hj => by
                rw [impl_opposite.set_cells HZ.out 46 (by omega) 45 j hj]
                unfold impl_opposite.tb
                by_cases e : j = 46
                · subst e; rfl
                · rw [if_neg e]
                  by_cases e2 : j = 45
                  · subst e2; rfl
                  · simp only [e, e2, false_and, if_false]⟩, ⟨fun j => by rw [World.frozen?_setCell]; exact HF.out j⟩, ⟨HB.out.setCell (p := ⟨_, 46, none⟩) (Nat.le_refl _) _⟩⟩
            | 2, _ =>
              go_wp2_with fail
              go_ret
              refine ⟨_, rfl, ⟨Nat.le_refl _, fun j hj => ?_⟩, HB.out⟩
              rw [HZ.out j hj]
              unfold impl_opposite.tb impl_opposite.tab
              simp
set_option maxRecDepth 100000 in
set_option maxHeartbeats 8000000 in
theorem impl_opposite.buildOnce (b g cap : Nat) (v0 v1 x3 : Value) (W : World) (b0 : W.cell? ⟨b, 0, none⟩ = some v0) (b1 : W.cell? ⟨b, 1, none⟩ = some v1) (b3 : W.cell? ⟨b, 3, none⟩ = some x3) (b4 : W.cell? ⟨b, 4, none⟩ = some (.slice (some ⟨g, 0, none⟩) 4 cap)) (fz : ∀ j, W.frozen? ⟨b, j, none⟩ = false)
    (h0 : W.cell? ⟨g, 0, none⟩ = some (.string ⟨#[46]⟩)) (h1 : W.cell? ⟨g, 1, none⟩ = some (.string ⟨#[45]⟩)) (h2 : W.cell? ⟨g, 2, none⟩ = some (.string ⟨#[45]⟩)) (h3 : W.cell? ⟨g, 3, none⟩ = some (.string ⟨#[46]⟩)) :
    Calls Tryz.prog 62 #[.pointer (some ⟨b, 0, none⟩)] W fun e w' => e = .returned (.tuple #[]) ∧ w'.cell? ⟨b, 0, none⟩ = some v0 ∧ w'.cell? ⟨b, 1, none⟩ = some v1 ∧ w'.frozen? ⟨b, 0, none⟩ = false ∧ w'.frozen? ⟨b, 1, none⟩ = false ∧ Aside0 (∃ t w2, impl_opposite.ready W.heap.size t w2 ∧ Below W.heap.size W w2 ∧ w' = (w2.setCell ⟨b, 3, none⟩ (.iface 123 (.pointer (some ⟨t, 0, none⟩)))).setCell ⟨b, 4, none⟩ (.slice none 0 0)) := by
  have HB := Aside0.mk (impl_opposite.build b g cap W b4 h0 h1 h2 h3)
  have hbl : b < W.heap.size := World.block_lt_of_cell? W _ b0
  have B0 := Aside0.mk b0
  have B1 := Aside0.mk b1
  have B3 := Aside0.mk b3
  have B4 := Aside0.mk b4
  have FZ := Aside0.mk fz
  clear b0 b1 b3 b4 fz h0 h1 h2 h3
  go_enter Tryz.func62, Tryz.ntmps62
  go_wp2_with (go_at_call 77; refine HB.out.mono ?_; rintro e w2 ⟨t, rfl, hr, hb⟩; have HR := Aside0.mk hr; have HB2 := Aside0.mk hb; have d3 := pw_cell_below hb B3.out; have d4 := pw_cell_below hb B4.out; have z3 : w2.frozen? ⟨b, 3, none⟩ = false := (hb.frozen (p := ⟨b, 3, none⟩) hbl).trans (FZ.out 3); have z4 : w2.frozen? ⟨b, 4, none⟩ = false := (hb.frozen (p := ⟨b, 4, none⟩) hbl).trans (FZ.out 4); clear hr hb)
  go_end0
  have n3 : (⟨b, 3, none⟩ : Addr) ≠ ⟨b, 0, none⟩ := by simp
  refine ⟨rfl, ?_, ?_, ?_, ?_, ⟨t, w2, HR.out, HB2.out, rfl⟩⟩
  · rw [World.cell?_setCell_other _ _ _ _ (by simp), World.cell?_setCell_other _ _ _ _ (by simp)]; exact pw_cell_below HB2.out B0.out
  · rw [World.cell?_setCell_other _ _ _ _ (by simp), World.cell?_setCell_other _ _ _ _ (by simp)]; exact pw_cell_below HB2.out B1.out
  · rw [World.frozen?_setCell, World.frozen?_setCell, HB2.out.frozen (p := ⟨b, 0, none⟩) hbl]; exact FZ.out 0
  · rw [World.frozen?_setCell, World.frozen?_setCell, HB2.out.frozen (p := ⟨b, 1, none⟩) hbl]; exact FZ.out 1
def impl_opposite.opB (c : UInt8) : UInt8 := if c = 45 then 46 else if c = 46 then 45 else c
def impl_opposite.opp (s : ByteArray) : ByteArray := ⟨(s.data.toList.map impl_opposite.opB).toArray⟩
theorem impl_opposite.tab_byte (c : UInt8) : impl_opposite.tab c.toNat = ((impl_opposite.opB c).toNat : Int) := by
  unfold impl_opposite.tab impl_opposite.opB
  by_cases h : c = 45
  · subst h; rfl
  · have h' : ¬ c.toNat = 45 := fun q => h (UInt8.toNat_inj.1 q)
    rw [if_neg h, if_neg h']
    by_cases h2 : c = 46
    · subst h2; rfl
    · have h2' : ¬ c.toNat = 46 := fun q => h2 (UInt8.toNat_inj.1 q)
      rw [if_neg h2, if_neg h2']
/-- the bytes before i turned -/
def impl_opposite.half (l : List UInt8) (i : Nat) : List UInt8 := (l.take i).map impl_opposite.opB ++ l.drop i
theorem impl_opposite.half_len (l : List UInt8) (i : Nat) (h : i ≤ l.length) : (impl_opposite.half l i).length = l.length := by unfold impl_opposite.half; simp; omega
theorem impl_opposite.half_step (l : List UInt8) (i : Nat) (h : i < l.length) : (impl_opposite.half l i).set i (impl_opposite.opB l[i]) = impl_opposite.half l (i + 1) := by
  unfold impl_opposite.half
  rw [List.set_append_right _ _ (by simp; omega)]
  have e : i - ((l.take i).map impl_opposite.opB).length = 0 := by simp; omega
  rw [e, List.drop_eq_getElem_cons h, List.set_cons_zero, List.take_succ_eq_append_getElem h, List.map_append, List.append_assoc]
  rfl
theorem impl_opposite.half_same (l : List UInt8) (i : Nat) (h : i < l.length) (e : impl_opposite.opB l[i] = l[i]) : impl_opposite.half l (i + 1) = impl_opposite.half l i := by
  rw [← impl_opposite.half_step l i h, e]
  refine List.ext_getElem? fun j => ?_
  rw [List.getElem?_set]
  by_cases hj : i = j
  · subst hj
    have hl := impl_opposite.half_len l i (Nat.le_of_lt h)
    rw [if_pos rfl, if_pos (by rw [hl]; exact h)]
    unfold impl_opposite.half
    rw [List.getElem?_append_right (by simp; omega), List.length_map, List.length_take, Nat.min_eq_left (Nat.le_of_lt h), Nat.sub_self, List.getElem?_drop, Nat.add_zero, List.getElem?_eq_getElem h]
  · rw [if_neg hj]
theorem impl_opposite.half_set {w : World} {g n : Nat} {l : List UInt8} {i : Nat} (hn : l.length = n) (hi : i < n) (h : ∀ j, j < n → w.cell? ⟨g, j, none⟩ = some (.int .u8 (((impl_opposite.half l i).getD j 0).toNat : Int))) (y : UInt8) (hy : l[i]'(by omega) = y) : ∀ j, j < n → (w.setCell ⟨g, i, none⟩ (.int .u8 ((impl_opposite.opB y).toNat : Int))).cell? ⟨g, j, none⟩ = some (.int .u8 (((impl_opposite.half l (i + 1)).getD j 0).toNat : Int)) := by
  intro j hj
  have hl := impl_opposite.half_len l i (by omega)
  rw [← impl_opposite.half_step l i (by omega), hy, List.getD_eq_getElem?_getD, List.getElem?_set]
  by_cases e : i = j
  · subst e
    rw [World.cell?_setCell_same _ _ _ (h i hi), if_pos rfl, if_pos (by omega)]
    rfl
  · rw [World.cell?_setCell_other _ _ _ _ (fun q => e (congrArg Addr.off q)), h j hj, if_neg e, List.getD_eq_getElem?_getD]
theorem impl_opposite.nil_ (w : World) (a : Option Addr) (n c : Nat) : (binOp .eql 81 (.slice a n c) (.slice none 0 0)).run Tryz.prog w = .ok (.bool (a == none)) w := by
  rw [Lib.run_eql_slice_nil w _ _ a n c 0 0 Tryz.underlying81]
  cases a <;> rfl
set_option maxRecDepth 100000 in
set_option maxHeartbeats 8000000 in
theorem impl_opposite.replace (t : Nat) (s : ByteArray) (hs : s.size ≤ 1000000) (W : World) (ht : ∀ j, j < 256 → W.cell? ⟨t, j, none⟩ = some (.int .u8 (impl_opposite.tab j))) :
    Calls Tryz.prog 149 #[.pointer (some ⟨t, 0, none⟩), .string s] W fun e w' => e = .returned (.string (impl_opposite.opp s)) ∧ Below W.heap.size W w' := by
  have HT := Aside0.mk ht
  clear ht
  have hl : s.data.toList.length = s.size := Array.length_toList
  have hnil : ∀ (w : World) (a : Option Addr) (n c : Nat), (binOp .eql 81 (.slice a n c) (.slice none 0 0)).run Tryz.prog w = .ok (.bool (a == none)) w := fun w a n c => impl_opposite.nil_ w a n c
  go_enter Tryz.func149, Tryz.ntmps149
  go_wp2_with fail
  go_loopg [5, 6] s.size (fun gg v5 v6 w' => ∃ i : Nat, i ≤ s.size ∧ s.size - i ≤ gg ∧ v6 = .int .i64 (i : Int) ∧ Aside0 (Below W.heap.size W w') ∧ Aside0 ((v5 = .slice none 0 0 ∧ impl_opposite.half s.data.toList i = s.data.toList) ∨ ∃ g cap, v5 = .slice (some ⟨g, 0, none⟩) s.size cap ∧ W.heap.size ≤ g ∧ (∀ j, j < s.size → w'.frozen? ⟨g, j, none⟩ = false) ∧ ∀ j (hj : j < s.size), w'.cell? ⟨g, j, none⟩ = some (.int .u8 (((impl_opposite.half s.data.toList i).getD j 0).toNat : Int))))
  case atStart => exact ⟨0, Nat.zero_le _, Nat.le_refl _, rfl, ⟨Below.refl _ _⟩, ⟨Or.inl ⟨rfl, by unfold impl_opposite.half; simp⟩⟩⟩
  case round =>
    obtain ⟨i, hi, hg, rfl, HB, HD⟩ := hrel
    by_cases hlt : i < s.size
    · have hltz : (i : Int) < (s.size : Int) := by omega
      have i0 : (0 : Int) ≤ (i : Int) := by omega
      obtain ⟨y, hsy, hly⟩ : ∃ y, s[i] = y ∧ s.data.toList[i]'(by omega) = y := ⟨s[i], rfl, rfl⟩
      have HLY := Aside0.mk hly
      have hy256 : (y.toNat : Int) < 256 := by have := y.toNat_lt; omega
      have htc := pw_cell_below HB.out (HT.out y.toNat (by have := y.toNat_lt; omega))
      rw [impl_opposite.tab_byte] at htc
      by_cases he : impl_opposite.opB y = y
      · have hs1 := impl_opposite.half_same s.data.toList i (by omega) (by rw [hly]; exact he)
        have HS1 := Aside0.mk hs1
        rw [he] at htc
        have hcmp : ((y.toNat : Int) != (y.toNat : Int)) = false := by simp
        clear hly hs1
        go_wp2_with fail
        go_roundg (s.size - (i + 1))
        case measure => omega
        case rel => exact ⟨i + 1, by omega, by omega, by go_num, HB, ⟨by rw [HS1.out]; exact HD.out⟩⟩
      · have hne : ¬ ((impl_opposite.opB y).toNat : Int) = (y.toNat : Int) := fun q => he (UInt8.toNat_inj.1 (by omega))
        have hcmp : (((impl_opposite.opB y).toNat : Int) != (y.toNat : Int)) = true := by simpa using hne
        have hcmp2 : (((impl_opposite.opB y).toNat : Int) == (y.toNat : Int)) = false := by simpa using hne
        rcases HD.out with ⟨rfl, hid⟩ | ⟨g, cap, rfl, hgl, hfz, hcs⟩
        · have hcv := Lib.run_convert_string_bytes (P := Tryz.prog) wr 9 81 5 s (u := .string) Tryz.underlying9 Tryz.underlying81 Tryz.underlying5
          have hbw := Lib.bytesWorld_below wr 5 s
          have hcs : ∀ j, j < s.size → (Lib.bytesWorld wr 5 s).cell? ⟨wr.heap.size, j, none⟩ = some (.int .u8 (((impl_opposite.half s.data.toList i).getD j 0).toNat : Int)) := fun j hj => by rw [hid]; exact Lib.bytesWorld_cell wr 5 s j hj
          have hfz : ∀ j, j < s.size → (Lib.bytesWorld wr 5 s).frozen? ⟨wr.heap.size, j, none⟩ = false := fun j hj => by
            have hn := Lib.bytesWorld_at_new wr 5 s
            have hc : s.size ≤ (Lib.bytesCells wr 5 s).size := by
              have h3 : s.data.size = s.size := rfl
              simp [Lib.bytesCells, h3]
            unfold World.frozen?
            simp only [hn]
            simp
            omega
          have htc2 := pw_cell_below hbw htc
          have hsi := hcs i hlt
          have hfi := hfz i hlt
          have HCS := Aside0.mk (impl_opposite.half_set hl hlt hcs y hly)
          have HFZ := Aside0.mk hfz
          have HBW := Aside0.mk hbw
          have hwz : W.heap.size ≤ wr.heap.size := HB.out.size
          clear hcs hfz hbw hid hly
          generalize grownCap wr s.size 0 5 = C at hcv
          generalize Lib.bytesWorld wr 5 s = W1 at *
          go_wp2_with fail
          go_roundg (s.size - (i + 1))
          case measure => omega
          case rel => exact ⟨i + 1, by omega, by omega, by go_num, ⟨(below_step HB.out HBW.out).setCell (p := ⟨wr.heap.size, i, none⟩) hwz _⟩, ⟨Or.inr ⟨wr.heap.size, C, rfl, hwz, fun j hj => by rw [World.frozen?_setCell]; exact HFZ.out j hj, HCS.out⟩⟩⟩
        · have hsi := hcs i hlt
          have hfi := hfz i hlt
          have HCS := Aside0.mk (impl_opposite.half_set hl hlt hcs y hly)
          have HFZ := Aside0.mk hfz
          clear hcs hfz hly
          go_wp2_with fail
          go_roundg (s.size - (i + 1))
          case measure => omega
          case rel => exact ⟨i + 1, by omega, by omega, by go_num, ⟨HB.out.setCell (p := ⟨g, i, none⟩) hgl _⟩, ⟨Or.inr ⟨g, cap, rfl, hgl, fun j hj => by rw [World.frozen?_setCell]; exact HFZ.out j hj, HCS.out⟩⟩⟩
    · have : i = s.size := by omega
      subst this
      have hltz : ¬ ((s.size : Int) < (s.size : Int)) := by omega
      have hall : impl_opposite.half s.data.toList s.size = s.data.toList.map impl_opposite.opB := by
        unfold impl_opposite.half
        rw [List.take_of_length_le (by omega), List.drop_eq_nil_of_le (by omega), List.append_nil]
      rcases HD.out with ⟨rfl, hid⟩ | ⟨g, cap, rfl, hgl, hfz, hcs⟩
      · rw [hall] at hid
        have HID := Aside0.mk hid
        clear hid hall
        go_wp2_with fail
        go_ret
        refine ⟨?_, HB.out⟩
        have : impl_opposite.opp s = s := by unfold impl_opposite.opp; rw [HID.out]
        rw [this]; rfl
      · have hk := run_convert_bytes_back (P := Tryz.prog) wr 81 9 5 ⟨g, 0, none⟩ cap (s.data.toList.map impl_opposite.opB) Tryz.underlying81 Tryz.underlying5 Tryz.underlying9 (fun j hj => by
          have hj' : j < s.size := by simpa using hj
          have ea : (⟨g, 0, none⟩ : Addr).add j = ⟨g, j, none⟩ := by
            unfold Addr.add
            by_cases h0 : j = 0 <;> simp [h0]
          rw [ea, hcs j hj', hall, List.getD_eq_getElem?_getD, List.getElem?_eq_getElem hj]
          rfl)
        rw [List.length_map, hl] at hk
        have HK := hk
        clear hk hall hcs hfz
        go_wp2_with fail
        go_ret
        exact ⟨rfl, HB.out⟩
set_option maxRecDepth 100000 in
set_option maxHeartbeats 8000000 in
/-- the replacer that has just been made, at its first text -/
theorem impl_opposite.whole (b g cap : Nat) (s : ByteArray) (hs : s.size ≤ 1000000) (B : Nat) (w W : World) (hB : Below B w W) (hb : B ≤ b) (hblk : W.heap[b]? = some (.cells #[.int .u32 0, .int .i32 0, .int .u32 0, .nilIface, .slice (some ⟨g, 0, none⟩) 4 cap] 79 (0, 0))) (hgb : g ≠ b)
    (h0 : W.cell? ⟨g, 0, none⟩ = some (.string ⟨#[46]⟩)) (h1 : W.cell? ⟨g, 1, none⟩ = some (.string ⟨#[45]⟩)) (h2 : W.cell? ⟨g, 2, none⟩ = some (.string ⟨#[45]⟩)) (h3 : W.cell? ⟨g, 3, none⟩ = some (.string ⟨#[46]⟩)) :
    Calls Tryz.prog 52 #[.pointer (some ⟨b, 0, none⟩), .string s] W fun e w' => e = .returned (.string (impl_opposite.opp s)) ∧ Below B w w' := by
  have cell : ∀ j v, (#[Value.int .u32 0, .int .i32 0, .int .u32 0, .nilIface, .slice (some ⟨g, 0, none⟩) 4 cap] : Array Value)[j]? = some v → W.cell? ⟨b, j, none⟩ = some v := fun j v hv => by
    rw [cell_of_row W b j _ _ (0, 0) hblk]; exact hv
  have c0 := cell 0 _ rfl
  have c1 := cell 1 _ rfl
  have c3 := cell 3 _ rfl
  have c4 := cell 4 _ rfl
  have fz : ∀ j, W.frozen? ⟨b, j, none⟩ = false := fun j => frozen_of_row W b j _ _ hblk
  have hbl : b < W.heap.size := World.block_lt_of_cell? W _ c0
  have hset : ∀ (x : Addr) (v : Value), x.block = b → x ≠ ⟨b, 1, none⟩ → True := fun _ _ _ _ => trivial
  have n1 : ∀ j : Nat, j ≠ 1 → (⟨b, 1, none⟩ : Addr) ≠ ⟨b, j, none⟩ := fun j hj e => hj (congrArg Addr.off e).symm
  have ng : ∀ j : Nat, (⟨b, 1, none⟩ : Addr) ≠ ⟨g, j, none⟩ := fun j e => hgb (congrArg Addr.block e).symm
  have hbo := impl_opposite.buildOnce b g cap (.int .u32 0) (.int .i32 1) .nilIface (W.setCell ⟨b, 1, none⟩ (.int .i32 1))
    ((World.cell?_setCell_other _ _ _ _ (n1 0 (by omega))).trans c0) (World.cell?_setCell_same _ _ _ c1) ((World.cell?_setCell_other _ _ _ _ (n1 3 (by omega))).trans c3) ((World.cell?_setCell_other _ _ _ _ (n1 4 (by omega))).trans c4) (fun j => by rw [World.frozen?_setCell]; exact fz j)
    ((World.cell?_setCell_other _ _ _ _ (ng 0)).trans h0) ((World.cell?_setCell_other _ _ _ _ (ng 1)).trans h1) ((World.cell?_setCell_other _ _ _ _ (ng 2)).trans h2) ((World.cell?_setCell_other _ _ _ _ (ng 3)).trans h3)
  have HO := Aside0.mk (impl_opposite.once b W c0 c1 (fz 0) (fz 1) _ hbo)
  have hmf : ∀ (fn : Fn) (first cap : Array Value) (w : World), (Instr.makeFunc fn first cap).run Tryz.prog w = .ok (.func fn first cap) w := fun _ _ _ _ => rfl
  have hm : ∀ (t : Nat) (w : World), (method 310 123 (.pointer (some ⟨t, 0, none⟩)) "Replace").run Tryz.prog w = .ok (149, .pointer (some ⟨t, 0, none⟩)) w := fun _ _ => by kernel_rfl
  clear hbo cell hset c0 c1 c3 c4 h0 h1 h2 h3
  go_enter Tryz.func52, Tryz.ntmps52
  go_upto_region 2 with (go_at_call 61; refine HO.out.mono ?_; rintro e w3 ⟨rfl, w1, hp, rfl⟩; have HP := Aside0.mk hp; clear hp)
  obtain ⟨t, w2, ⟨ht1, ht2⟩, hb2, rfl⟩ := HP.out
  have hsz : (W.setCell ⟨b, 1, none⟩ (Value.int .i32 1)).heap.size = W.heap.size := by simp
  rw [hsz] at ht1 hb2
  have htb : t ≠ b := by omega
  have d3 : w2.cell? ⟨b, 3, none⟩ = some .nilIface := (hb2.cell (p := ⟨b, 3, none⟩) hbl).trans ((World.cell?_setCell_other _ _ _ _ (n1 3 (by omega))).trans (by rw [cell_of_row W b 3 _ _ (0, 0) hblk]; rfl))
  have nn : ∀ i j : Nat, i ≠ j → (⟨b, i, none⟩ : Addr) ≠ ⟨b, j, none⟩ := fun i j h e => h (congrArg Addr.off e)
  have nt : ∀ i j : Nat, (⟨b, i, none⟩ : Addr) ≠ ⟨t, j, none⟩ := fun i j e => htb (congrArg Addr.block e).symm
  have e3 : (((((w2.setCell ⟨b, 3, none⟩ (.iface 123 (.pointer (some ⟨t, 0, none⟩)))).setCell ⟨b, 4, none⟩ (.slice none 0 0)).setCell ⟨b, 0, none⟩ (.int .u32 1)).setCell ⟨b, 1, none⟩ (.int .i32 0)).drew).cell? ⟨b, 3, none⟩ = some (.iface 123 (.pointer (some ⟨t, 0, none⟩))) := by
    rw [World.cell?_drew, World.cell?_setCell_other _ _ _ _ (nn 1 3 (by omega)), World.cell?_setCell_other _ _ _ _ (nn 0 3 (by omega)), World.cell?_setCell_other _ _ _ _ (nn 4 3 (by omega))]
    exact World.cell?_setCell_same _ _ _ d3
  have et : ∀ j, (((((w2.setCell ⟨b, 3, none⟩ (.iface 123 (.pointer (some ⟨t, 0, none⟩)))).setCell ⟨b, 4, none⟩ (.slice none 0 0)).setCell ⟨b, 0, none⟩ (.int .u32 1)).setCell ⟨b, 1, none⟩ (.int .i32 0)).drew).cell? ⟨t, j, none⟩ = w2.cell? ⟨t, j, none⟩ := fun j => by
    rw [World.cell?_drew, World.cell?_setCell_other _ _ _ _ (nt 1 j), World.cell?_setCell_other _ _ _ _ (nt 0 j), World.cell?_setCell_other _ _ _ _ (nt 4 j), World.cell?_setCell_other _ _ _ _ (nt 3 j)]
  have hw2 : Below B w w2 := (hB.setCell (p := ⟨b, 1, none⟩) hb (.int .i32 1)).trans ⟨hb2.os, hb2.tape, hb2.output, hb2.size, fun k hk => hb2.block k (by have := hbl; omega)⟩
  have hX : Below B w (((((w2.setCell ⟨b, 3, none⟩ (.iface 123 (.pointer (some ⟨t, 0, none⟩)))).setCell ⟨b, 4, none⟩ (.slice none 0 0)).setCell ⟨b, 0, none⟩ (.int .u32 1)).setCell ⟨b, 1, none⟩ (.int .i32 0)).drew) :=
    below_drew ((((hw2.setCell (p := ⟨b, 3, none⟩) hb _).setCell (p := ⟨b, 4, none⟩) hb _).setCell (p := ⟨b, 0, none⟩) hb _).setCell (p := ⟨b, 1, none⟩) hb _)
  have hBX : B ≤ (((((w2.setCell ⟨b, 3, none⟩ (.iface 123 (.pointer (some ⟨t, 0, none⟩)))).setCell ⟨b, 4, none⟩ (.slice none 0 0)).setCell ⟨b, 0, none⟩ (.int .u32 1)).setCell ⟨b, 1, none⟩ (.int .i32 0)).drew).heap.size := by
    simp
    have := hb2.size
    rw [hsz] at this
    omega
  have HT := Aside0.mk (fun j hj => (et j).trans (ht2 j hj))
  have HX := Aside0.mk hX
  have HBX := Aside0.mk hBX
  clear HP HO et ht2 hX hBX hw2 d3 nn nt hblk hb2 fz n1 ng
  generalize (((((w2.setCell ⟨b, 3, none⟩ (.iface 123 (.pointer (some ⟨t, 0, none⟩)))).setCell ⟨b, 4, none⟩ (.slice none 0 0)).setCell ⟨b, 0, none⟩ (.int .u32 1)).setCell ⟨b, 1, none⟩ (.int .i32 0)).drew) = X at *
  go_wp2_with (go_at_call 149; refine (impl_opposite.replace t s hs _ HT.out).mono ?_; rintro e w9 ⟨rfl, hb9⟩; have HB9 := Aside0.mk hb9; clear hb9)
  go_ret
  exact ⟨rfl, HX.out.trans ⟨HB9.out.os, HB9.out.tape, HB9.out.output, HB9.out.size, fun k hk => HB9.out.block k (Nat.lt_of_lt_of_le hk HBX.out)⟩⟩
theorem impl_opposite.le_ {w : World} {o : Obj} {b : Nat} (h : (w.alloc o).heap.size ≤ b) : w.heap.size ≤ b := by simp at h; omega
theorem impl_opposite.ne_ {w : World} {b g cap : Nat} {s : ByteArray} (h : w.heap[b]? = some (.cells #[.int .u32 0, .int .i32 0, .int .u32 0, .nilIface, .slice (some ⟨g, 0, none⟩) 4 cap] 79 (0, 0))) (h2 : w.cell? ⟨g, 0, none⟩ = some (.string s)) : g ≠ b := by
  rintro rfl
  rw [cell_of_row w g 0 _ _ (0, 0) h] at h2
  cases h2
def impl_opposite.f (a0 : ByteArray) : Option ByteArray := if a0.size ≤ 1000000 then some (impl_opposite.opp a0) else none
set_option maxRecDepth 100000 in
set_option maxHeartbeats 4000000 in
theorem impl_opposite.calls (a0 : ByteArray) (r : ByteArray) (w : World) (h : impl_opposite.f a0 = some r) :
    Calls Tryz.prog 30 #[.string a0] w fun e w' => e = .returned (.string r) ∧ Below w.heap.size w w' := by
  unfold impl_opposite.f at h
  by_cases hs : a0.size ≤ 1000000
  · rw [if_pos hs] at h
    obtain rfl := Option.some.inj h
    clear h
    go_enter Tryz.func30, Tryz.ntmps30
    go_wp2_with (first | (go_at_call 51; refine (impl_opposite.newRep w.heap.size ⟨#[46]⟩ ⟨#[45]⟩ ⟨#[45]⟩ ⟨#[46]⟩ _ (by simp) (by simp) (by simp) (by simp)).mono ?_; rintro e w1 ⟨b, g, cap, rfl, hb1, g0, g1, g2, g3, hl1, hl2, hb2⟩; have K1 := Aside0.mk hb1; have K2 := Aside0.mk (And.intro g0 (And.intro g1 (And.intro g2 g3))); have K3 := Aside0.mk (And.intro hl1 (And.intro hl2 hb2)); clear hb1 g0 g1 g2 g3 hl1 hl2 hb2) | (go_at_call 52; refine (impl_opposite.whole b g cap a0 hs w.heap.size w _ (below_step (below_alloc (Below.refl _ _) _) K3.out.2.2) (impl_opposite.le_ K3.out.1) K1.out (impl_opposite.ne_ K1.out K2.out.1) K2.out.1 K2.out.2.1 K2.out.2.2.1 K2.out.2.2.2).mono ?_; rintro e w2 ⟨rfl, hb3⟩; have K4 := Aside0.mk hb3; clear hb3))
    go_ret
    exact ⟨rfl, K4.out⟩
  · rw [if_neg hs] at h; cases h

/-! ### impl_comesFirst: function 48 -/
def impl_comesFirst.f (a0 : ByteArray) (a1 : ByteArray) : Option (Bool) := if (a0.size : Int) = (a1.size : Int) then ((impl_opposite.f a0).bind fun t211 => ((impl_opposite.f a1).bind fun t212 => (some (Op.bytesLess t211.toList t212.toList)))) else (some (decide ((a0.size : Int) < (a1.size : Int))))
set_option maxHeartbeats 8000000 in
set_option maxRecDepth 100000 in
theorem impl_comesFirst.calls (a0 : ByteArray) (a1 : ByteArray) (r : Bool) (w : World) (h : impl_comesFirst.f a0 a1 = some r) :
    Calls Tryz.prog 48 #[.string a0, .string a1] w fun e w' => e = .returned (.bool r) ∧ Below w.heap.size w w' := by
  have HB := Aside0.mk (Below.refl w.heap.size w)
  have H : (if (a0.size : Int) = (a1.size : Int) then ((impl_opposite.f a0).bind fun t211 => ((impl_opposite.f a1).bind fun t212 => (some (Op.bytesLess t211.toList t212.toList)))) else (some (decide ((a0.size : Int) < (a1.size : Int))))) = some r := h
  clear h
  by_cases c3 : (a0.size : Int) = (a1.size : Int)
  · rw [if_pos c3] at H
    have c3b0 : ((a0.size : Int) == (a1.size : Int)) = true := beq_iff_eq.mpr c3
    have c3b1 : ((a0.size : Int) != (a1.size : Int)) = false := bne_eq_false_iff_eq.mpr c3
    have c3b2 : (a0.size == a1.size) = true := by first | simpa using c3 | (simp at c3 ⊢; omega)
    clear c3
    replace H := Option.bind_eq_some_iff.mp H
    obtain ⟨t211, A40, H⟩ := H
    replace H : ((impl_opposite.f a1).bind fun t212 => (some (Op.bytesLess t211.toList t212.toList))) = some r := H
    have A4 := Aside0.mk A40
    clear A40
    replace H := Option.bind_eq_some_iff.mp H
    obtain ⟨t212, A50, H⟩ := H
    replace H : (some (Op.bytesLess t211.toList t212.toList)) = some r := H
    have A5 := Aside0.mk A50
    clear A50
    obtain rfl := Option.some.inj H
    go_enter Tryz.func48, Tryz.ntmps48
    go_wp2_with (first | ((with_reducible refine gate_callee (f := 30) rfl ?_); refine goesL_ (some 16) rfl rfl Tryz.func30 (by kernel_rfl) rfl #[.string a0] rfl (by (try simp only [List.map_toArray, List.map_cons, List.map_nil]); first | done | rfl | (simp only [List.length_drop, List.length_take]; rfl)) ?_; (with_reducible refine (impl_opposite.calls a0 t211 _ A4.out).mono ?_); rintro e w6 ⟨rfl, hb⟩; refine ⟨_, rfl, ?_⟩; have n0_ := Aside0.mk (below_step (by repeat (first | (with_reducible first | exact HB.out | apply below_alloc | apply pw_below_drewN | apply below_drew1) | exact HB.out)) hb); clear HB; have HB := n0_; clear n0_; (try clear hb); (try clear hb2); (try clear hk); (try clear hi)) | ((with_reducible refine gate_callee (f := 30) rfl ?_); refine goesL_ (some 18) rfl rfl Tryz.func30 (by kernel_rfl) rfl #[.string a1] rfl (by (try simp only [List.map_toArray, List.map_cons, List.map_nil]); first | done | rfl | (simp only [List.length_drop, List.length_take]; rfl)) ?_; (with_reducible refine (impl_opposite.calls a1 t212 _ A5.out).mono ?_); rintro e w7 ⟨rfl, hb⟩; refine ⟨_, rfl, ?_⟩; have n0_ := Aside0.mk (below_step (by repeat (first | (with_reducible first | exact HB.out | apply below_alloc | apply pw_below_drewN | apply below_drew1) | exact HB.out)) hb); clear HB; have HB := n0_; clear n0_; (try clear hb); (try clear hb2); (try clear hk); (try clear hi)))
    go_ret
    exact ⟨by first | rfl | (simp [errW_none, errW_some] <;> rfl) | (simp [*, errW_none, errW_some] <;> rfl), by repeat (first | (with_reducible first | exact HB.out | apply below_alloc | apply pw_below_drewN | apply below_drew1) | exact HB.out)⟩
  · rw [if_neg c3] at H
    have c3b0 : ((a0.size : Int) == (a1.size : Int)) = false := beq_eq_false_iff_ne.mpr c3
    have c3b1 : ((a0.size : Int) != (a1.size : Int)) = true := bne_iff_ne.mpr c3
    have c3b2 : (a0.size == a1.size) = false := by first | simpa using c3 | (simp at c3 ⊢; omega)
    obtain rfl := Option.some.inj H
    go_enter Tryz.func48, Tryz.ntmps48
    go_wp2
    go_ret
    exact ⟨by first | rfl | (simp [errW_none, errW_some] <;> rfl) | (simp [*, errW_none, errW_some] <;> rfl), by repeat (first | (with_reducible first | exact HB.out | apply below_alloc | apply pw_below_drewN | apply below_drew1) | exact HB.out)⟩

/-! ### stringslite_HasPrefix: function 59 -/
def stringslite_HasPrefix.f (a0 : ByteArray) (a1 : ByteArray) : Option (Bool) := if (a0.size : Int) ≥ (a1.size : Int) then (if 0 ≤ (a1.size : Int) then (if (a1.size : Int) ≤ (a0.size : Int) then (some ((a0.extract 0 ((a1.size : Int) : Int).toNat).toList == a1.toList)) else (none)) else (none)) else (some false)
set_option maxHeartbeats 8000000 in
set_option maxRecDepth 100000 in
theorem stringslite_HasPrefix.calls (a0 : ByteArray) (a1 : ByteArray) (r : Bool) (w : World) (h : stringslite_HasPrefix.f a0 a1 = some r) :
    Calls Tryz.prog 59 #[.string a0, .string a1] w fun e w' => e = .returned (.bool r) ∧ Drawn0 w w' := by
  have H : (if (a0.size : Int) ≥ (a1.size : Int) then (if 0 ≤ (a1.size : Int) then (if (a1.size : Int) ≤ (a0.size : Int) then (some ((a0.extract 0 ((a1.size : Int) : Int).toNat).toList == a1.toList)) else (none)) else (none)) else (some false)) = some r := h
  clear h
  by_cases c3 : (a0.size : Int) ≥ (a1.size : Int)
  · rw [if_pos c3] at H
    have c3b0 : decide ((a1.size : Int) ≤ (a0.size : Int)) = true := decide_eq_true c3
    have c3b1 : decide (a1.size ≤ a0.size) = true := decide_eq_true (Int.ofNat_le.mp c3)
    clear c3
    by_cases c4 : 0 ≤ (a1.size : Int)
    · rw [if_pos c4] at H
      have c4b0 := eq_true c4
      have c4b1 : decide (0 ≤ (a1.size : Int)) = true := decide_eq_true c4
      clear c4
      by_cases c5 : (a1.size : Int) ≤ (a0.size : Int)
      · rw [if_pos c5] at H
        have c5b0 := eq_true c5
        have c5b1 : decide ((a1.size : Int) ≤ (a0.size : Int)) = true := decide_eq_true c5
        clear c5
        obtain rfl := Option.some.inj H
        go_enter Tryz.func59, Tryz.ntmps59
        go_wp2
        go_ret
        exact ⟨by first | rfl | (simp; done) | (simp [*]; done), by repeat (first | exact Drawn0.refl _ | apply Drawn0.step)⟩
      · rw [if_neg c5] at H
        exact absurd H (by simp)
    · rw [if_neg c4] at H
      exact absurd H (by simp)
  · rw [if_neg c3] at H
    have c3b0 : decide ((a1.size : Int) ≤ (a0.size : Int)) = false := decide_eq_false c3
    have c3b1 : decide (a1.size ≤ a0.size) = false := decide_eq_false (fun h => c3 (Int.ofNat_le.mpr h))
    clear c3
    obtain rfl := Option.some.inj H
    go_enter Tryz.func59, Tryz.ntmps59
    go_wp2
    go_ret
    exact ⟨by first | rfl | (simp; done) | (simp [*]; done), by repeat (first | exact Drawn0.refl _ | apply Drawn0.step)⟩

/-! ### strings_HasPrefix: function 49 -/
def strings_HasPrefix.f (a0 : ByteArray) (a1 : ByteArray) : Option (Bool) := (stringslite_HasPrefix.f a0 a1).bind fun t213 => (some t213)
set_option maxHeartbeats 8000000 in
set_option maxRecDepth 100000 in
theorem strings_HasPrefix.calls (a0 : ByteArray) (a1 : ByteArray) (r : Bool) (w : World) (h : strings_HasPrefix.f a0 a1 = some r) :
    Calls Tryz.prog 49 #[.string a0, .string a1] w fun e w' => e = .returned (.bool r) ∧ Drawn0 w w' := by
  have H : ((stringslite_HasPrefix.f a0 a1).bind fun t213 => (some t213)) = some r := h
  clear h
  replace H := Option.bind_eq_some_iff.mp H
  obtain ⟨t213, A30, H⟩ := H
  replace H : (some t213) = some r := H
  have A3 := Aside0.mk A30
  clear A30
  obtain rfl := Option.some.inj H
  go_enter Tryz.func49, Tryz.ntmps49
  go_wp2_with (first | ((with_reducible refine gate_callee (f := 59) rfl ?_); refine goesL_ (some 7) rfl rfl Tryz.func59 (by kernel_rfl) rfl #[.string a0, .string a1] rfl (by (try simp only [List.map_toArray, List.map_cons, List.map_nil]); first | done | rfl | (simp only [List.length_drop, List.length_take]; rfl)) ?_; (with_reducible refine (stringslite_HasPrefix.calls a0 a1 t213 _ A3.out).mono ?_); rintro e w' ⟨rfl, ⟨nd, rfl⟩⟩; refine ⟨_, rfl, ?_⟩))
  go_ret
  exact ⟨by first | rfl | (simp; done) | (simp [*]; done), by repeat (first | exact Drawn0.refl _ | apply Drawn0.step)⟩

end Go.Proofs.YtpdojionnmehbaaGreatDoor.HFnExactFirstMisleading
