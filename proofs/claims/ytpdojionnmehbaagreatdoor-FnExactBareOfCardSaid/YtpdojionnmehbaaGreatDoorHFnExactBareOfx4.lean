/- What the machine does at each Go function that the law reaches is what the Lean function of its name says. -/
import Derived.Test.YtpdojionnmehbaaGreatDoorHFnExactBareOfx0
import Derived.Test.YtpdojionnmehbaaGreatDoorHFnExactBareOfx3
namespace Go.Proofs.YtpdojionnmehbaaGreatDoor.HFnExactBareOf
open Go.RowKit Go.Proofs.YtpdojionnmehbaaGreatDoorW.PrintWords Go.Proofs.YtpdojionnmehbaaGreatDoorW.PrintLast Go.Proofs.YtpdojionnmehbaaGreatDoorW.PrintMore
attribute [local go_sem] max2_int min2_int max_two min_two max_three min_three max_four min_four   -- for this text's walks alone
set_option linter.unusedVariables false
set_option linter.unusedSimpArgs false

/-! ### impl_bare: function 36 (by hand) -/
/-! sync.Once, not yet done, its lock free: one goroutine -/
theorem impl_bare.disable (w : World) : (callFunc 108 #[]).run Tryz.prog w = .ok (.value (.tuple #[])) w := run_call_mark0 Tryz.func108 (by kernel_rfl) (by kernel_rfl) (by kernel_rfl) .disable (by kernel_rfl) w
theorem impl_bare.enable (w : World) : (callFunc 110 #[]).run Tryz.prog w = .ok (.value (.tuple #[])) w := run_call_mark0 Tryz.func110 (by kernel_rfl) (by kernel_rfl) (by kernel_rfl) .enable (by kernel_rfl) w
theorem impl_bare.acquire (a : Addr) (w : World) : (callFunc 111 #[.pointer (some a)]).run Tryz.prog w = .ok (.value (.tuple #[])) w := run_call_marked Tryz.func111 (by kernel_rfl) (by kernel_rfl) (by kernel_rfl) .acquire (by kernel_rfl) a w
theorem impl_bare.releaseMerge (a : Addr) (w : World) : (callFunc 113 #[.pointer (some a)]).run Tryz.prog w = .ok (.value (.tuple #[])) w := run_call_marked Tryz.func113 (by kernel_rfl) (by kernel_rfl) (by kernel_rfl) .releaseMerge (by kernel_rfl) a w
set_option maxRecDepth 100000 in
/-- Store(true) of an atomic bool, entered as a deferred call. -/
theorem impl_bare.store_deferred (a : Addr) (x : Value) (u : FrameMode) (w : World) (hc : w.cell? a = some x) (hz : w.frozen? a = false) :
    CallsD Tryz.prog 88 #[.pointer (some a), .bool true] u w fun e u' w' => u' = u ∧ (e = .returned (.tuple #[]) ∧ w' = w.drew.setCell a (.int .u32 1)) := by
  have hc' : w.drew.cell? a = some x := by go_simp
  have hz' : w.drew.frozen? a = false := by go_simp
  have hst := run_call_store (P := Tryz.prog) Tryz.func100 (by kernel_rfl) (by kernel_rfl) (by kernel_rfl) (by kernel_rfl) (k := .u32) (y := 1) hc' hz'
  go_enter_d Tryz.func88, Tryz.ntmps88
  go_wp2
  go_region_calls
  all_goals (go_end0; exact ⟨rfl, rfl⟩)
set_option maxRecDepth 100000 in
/-- Unlock, entered as a deferred call, the lock held and nobody waiting. -/
theorem impl_bare.unlock_deferred (a : Addr) (u : FrameMode) (w : World) (hc : w.cell? a = some (.int .i32 1)) (hz : w.frozen? a = false) :
    CallsD Tryz.prog 87 #[.pointer (some a)] u w fun e u' w' => u' = u ∧ (e = .returned (.tuple #[]) ∧ w' = w.setCell a (.int .i32 0)) := by
  have hd := impl_bare.disable
  have he := impl_bare.enable
  have hr := impl_bare.releaseMerge
  have hadd := run_call_add (P := Tryz.prog) Tryz.func114 (by kernel_rfl) (by kernel_rfl) (by kernel_rfl) .i32 (by kernel_rfl) (y := -1) (s := 0) hc hz (by simp [go_sem]; rfl)
  have hcv := run_convert_to_unsafe (P := Tryz.prog) (src := 166) (dst := 139) Tryz.underlying166 Tryz.underlying139 (by kernel_rfl) hc
  go_enter_d Tryz.func87, Tryz.ntmps87
  go_wp2
  go_end0
  go_wp2
  go_end0
  exact ⟨rfl, rfl⟩
set_option maxRecDepth 100000 in
/-- Lock, the lock free. -/
theorem impl_bare.lock_free (a : Addr) (w : World) (hc : w.cell? a = some (.int .i32 0)) (hz : w.frozen? a = false) :
    Calls Tryz.prog 86 #[.pointer (some a)] w fun e w' => e = .returned (.tuple #[]) ∧ w' = w.setCell a (.int .i32 1) := by
  have hd := impl_bare.disable
  have he := impl_bare.enable
  have ha := impl_bare.acquire
  have hcas := run_call_cas_hit (P := Tryz.prog) Tryz.func109 (by kernel_rfl) (by kernel_rfl) (by kernel_rfl) .i32 (by kernel_rfl) (y := 1) hc hz
  have hc' : (w.setCell a (.int .i32 1)).cell? a = some (.int .i32 1) := World.cell?_setCell_same w a _ hc
  have hcv := run_convert_to_unsafe (P := Tryz.prog) (src := 166) (dst := 139) Tryz.underlying166 Tryz.underlying139 (by kernel_rfl) hc'
  go_enter Tryz.func86, Tryz.ntmps86
  go_wp2
  first | go_end0 | (simp only [Exit.inBlock, Exit.then]; refine bodyPost_ret (results_none rfl _ _ _) rfl ?_) | refine bodyPost_ret (results_none rfl _ _ _) rfl ?_
  go_wp2
  go_end0
  exact ⟨rfl, rfl⟩
set_option maxRecDepth 100000 in
set_option maxHeartbeats 4000000 in
/-- the slow road: the lock is taken, the function is called; then what was put off -/
theorem impl_bare.slow (b : Nat) (W : World) (h0 : W.cell? ⟨b, 0, none⟩ = some (.int .u32 0)) (h1 : W.cell? ⟨b, 1, none⟩ = some (.int .i32 0)) (f0 : W.frozen? ⟨b, 0, none⟩ = false) (f1 : W.frozen? ⟨b, 1, none⟩ = false) (Post : World → Prop)
    (hf : Calls Tryz.prog 62 #[.pointer (some ⟨b, 0, none⟩)] (W.setCell ⟨b, 1, none⟩ (.int .i32 1)) fun e w' => e = .returned (.tuple #[]) ∧ w'.cell? ⟨b, 0, none⟩ = some (.int .u32 0) ∧ w'.cell? ⟨b, 1, none⟩ = some (.int .i32 1) ∧ w'.frozen? ⟨b, 0, none⟩ = false ∧ w'.frozen? ⟨b, 1, none⟩ = false ∧ Aside0 (Post w')) :
    Calls Tryz.prog 76 #[.pointer (some ⟨b, 0, none⟩), .func (.func 62) #[.pointer (some ⟨b, 0, none⟩)] #[]] W fun e w' => e = .returned (.tuple #[]) ∧ ∃ w1, Aside0 (Post w1) ∧ w' = (w1.drew.setCell ⟨b, 0, none⟩ (.int .u32 1)).setCell ⟨b, 1, none⟩ (.int .i32 0) := by
  have hl := run_call_load (P := Tryz.prog) Tryz.func85 (by kernel_rfl) (by kernel_rfl) (by kernel_rfl) .u32 (by kernel_rfl) (w := W.setCell ⟨b, 1, none⟩ (.int .i32 1)) (a := ⟨b, 0, none⟩) (x := 0) ((World.cell?_setCell_other _ ⟨b, 1, none⟩ ⟨b, 0, none⟩ _ (by simp)).trans h0)
  have hnot : ∀ (x : Bool) (w : World), (Op.unary .not (.bool x)).run Tryz.prog w = .ok (.bool (!x)) w := fun _ _ => rfl
  have HF := Aside0.mk hf
  clear hf
  go_enter_defers Tryz.func76, Tryz.ntmps76
  go_wp2_with (first | (go_at_call 86; refine (impl_bare.lock_free ⟨b, 1, none⟩ _ (by go_simp) (by go_simp)).mono ?_; rintro e w' ⟨rfl, rfl⟩) | (go_at_call 75; go_in) | (go_at_call 62; refine HF.out.mono ?_; rintro e w1 ⟨rfl, g0, g1, z0, z1, hp⟩))
  -- the door: two deferred calls, the last laid first
  refine leaves_cons (f := 88) (args := #[.pointer (some ⟨b, 0, none⟩), .bool true]) (by simp) (by simp [go_sem]) ?_
  refine (impl_bare.store_deferred ⟨b, 0, none⟩ (.int .u32 0) .returning _ g0 z0).mono ?_
  rintro e u' w'' ⟨rfl, rfl, rfl⟩
  refine leaves_cons (f := 87) (args := #[.pointer (some ⟨b, 1, none⟩)]) (by simp [settle]) (by simp [go_sem]) ?_
  refine (impl_bare.unlock_deferred ⟨b, 1, none⟩ _ _ ?_ ?_).mono ?_
  · refine (World.cell?_setCell_other _ ⟨b, 0, none⟩ ⟨b, 1, none⟩ _ (by simp)).trans ?_
    rw [World.cell?_drew]
    exact g1
  · rw [World.frozen?_setCell, World.frozen?_drew]
    exact z1
  rintro e u' w'' ⟨rfl, rfl, rfl⟩
  have hend : ∃ w2, Aside0 (Post w2) ∧ (w1.drew.setCell ⟨b, 0, none⟩ (.int .u32 1)).setCell ⟨b, 1, none⟩ (.int .i32 0) = (w2.drew.setCell ⟨b, 0, none⟩ (.int .u32 1)).setCell ⟨b, 1, none⟩ (.int .i32 0) := ⟨w1, hp, rfl⟩
  have HE := Aside0.mk hend
  clear hend hp g0 g1 z0 z1
  simp [Leaves, settle, results, Tryz.results76]
  exact HE.out
set_option maxRecDepth 100000 in
set_option maxHeartbeats 4000000 in
/-- the first call of Do -/
theorem impl_bare.once (b : Nat) (W : World) (h0 : W.cell? ⟨b, 0, none⟩ = some (.int .u32 0)) (h1 : W.cell? ⟨b, 1, none⟩ = some (.int .i32 0)) (f0 : W.frozen? ⟨b, 0, none⟩ = false) (f1 : W.frozen? ⟨b, 1, none⟩ = false) (Post : World → Prop)
    (hf : Calls Tryz.prog 62 #[.pointer (some ⟨b, 0, none⟩)] (W.setCell ⟨b, 1, none⟩ (.int .i32 1)) fun e w' => e = .returned (.tuple #[]) ∧ w'.cell? ⟨b, 0, none⟩ = some (.int .u32 0) ∧ w'.cell? ⟨b, 1, none⟩ = some (.int .i32 1) ∧ w'.frozen? ⟨b, 0, none⟩ = false ∧ w'.frozen? ⟨b, 1, none⟩ = false ∧ Aside0 (Post w')) :
    Calls Tryz.prog 61 #[.pointer (some ⟨b, 0, none⟩), .func (.func 62) #[.pointer (some ⟨b, 0, none⟩)] #[]] W fun e w' => e = .returned (.tuple #[]) ∧ ∃ w1, Aside0 (Post w1) ∧ w' = (w1.drew.setCell ⟨b, 0, none⟩ (.int .u32 1)).setCell ⟨b, 1, none⟩ (.int .i32 0) := by
  have hl := run_call_load (P := Tryz.prog) Tryz.func85 (by kernel_rfl) (by kernel_rfl) (by kernel_rfl) .u32 (by kernel_rfl) h0
  have hnot : ∀ (x : Bool) (w : World), (Op.unary .not (.bool x)).run Tryz.prog w = .ok (.bool (!x)) w := fun _ _ => rfl
  have HS := Aside0.mk (impl_bare.slow b W h0 h1 f0 f1 Post hf)
  clear hf
  go_enter Tryz.func61, Tryz.ntmps61
  go_wp2_with (first | (go_at_call 76; refine HS.out.mono ?_; rintro e w' ⟨rfl, w1, hp, rfl⟩) | (go_at_call 75; go_in))
  go_end0
  exact ⟨rfl, w1, hp, rfl⟩
theorem impl_bare.infoS : ∃ i, Tryz.prog.info? 9 = some i ∧ i.zero = some (.string ⟨#[]⟩) ∧ i.size = 1 ∧ i.bytes = 16 := by
  have h : (Tryz.prog.info? 9).map (fun i => (i.zero, i.size, i.bytes)) = some (some (.string ⟨#[]⟩), 1, 16) := by kernel_rfl
  obtain ⟨i, hi, he⟩ := Option.map_eq_some_iff.1 h
  simp only [Prod.mk.injEq] at he
  exact ⟨i, hi, he⟩
theorem impl_bare.own4 {w : World} {base : Nat} {v : Value} {s0 s1 s2 s3 : ByteArray} (h : w.ownsRow base 9 1 v (0 + 4) ([] ++ [.string s0, .string s1, .string s2, .string s3])) : ∃ g cap, v = .slice (some ⟨g, 0, none⟩) 4 cap ∧ base ≤ g ∧ g < w.heap.size ∧ w.cell? ⟨g, 0, none⟩ = some (.string s0) ∧ w.cell? ⟨g, 1, none⟩ = some (.string s1) ∧ w.cell? ⟨g, 2, none⟩ = some (.string s2) ∧ w.cell? ⟨g, 3, none⟩ = some (.string s3) := by
  obtain ⟨g, cap, rfl⟩ : ∃ g cap, v = .slice (some ⟨g, 0, none⟩) 4 cap := by
    rcases h.2 with ⟨_, h'⟩ | ⟨g, cap, cur, h', _⟩
    · omega
    · exact ⟨g, cap, h'⟩
  have hl := h.lt g rfl
  refine ⟨g, cap, rfl, hl.1, hl.2, ?_, ?_, ?_, ?_⟩
  · rw [World.ownsRow.cellAt h 0 (by omega)]; rfl
  · rw [World.ownsRow.cellAt h 1 (by omega)]; rfl
  · rw [World.ownsRow.cellAt h 2 (by omega)]; rfl
  · rw [World.ownsRow.cellAt h 3 (by omega)]; rfl
theorem impl_bare.src4 {W : World} {a : Nat} {s0 s1 s2 s3 : ByteArray} (h0 : W.cell? ⟨a, 0, none⟩ = some (.string s0)) (h1 : W.cell? ⟨a, 1, none⟩ = some (.string s1)) (h2 : W.cell? ⟨a, 2, none⟩ = some (.string s2)) (h3 : W.cell? ⟨a, 3, none⟩ = some (.string s3)) (j : Nat) (u : Value) (hu : [Value.string s0, .string s1, .string s2, .string s3][j]? = some u) : W.cell? (Addr.add ⟨a, 0, none⟩ j) = some u := by
  match j, hu with
  | 0, hu => obtain rfl : Value.string s0 = u := by simpa using hu
             exact h0
  | 1, hu => obtain rfl : Value.string s1 = u := by simpa using hu
             exact h1
  | 2, hu => obtain rfl : Value.string s2 = u := by simpa using hu
             exact h2
  | 3, hu => obtain rfl : Value.string s3 = u := by simpa using hu
             exact h3
  | n + 4, hu => simp at hu
set_option maxRecDepth 100000 in
set_option maxHeartbeats 4000000 in
theorem impl_bare.newRep (a : Nat) (s0 s1 s2 s3 : ByteArray) (W : World) (h0 : W.cell? ⟨a, 0, none⟩ = some (.string s0)) (h1 : W.cell? ⟨a, 1, none⟩ = some (.string s1)) (h2 : W.cell? ⟨a, 2, none⟩ = some (.string s2)) (h3 : W.cell? ⟨a, 3, none⟩ = some (.string s3)) :
    Calls Tryz.prog 51 #[.slice (some ⟨a, 0, none⟩) 4 4] W fun e w' => ∃ b g cap, e = .returned (.pointer (some ⟨b, 0, none⟩)) ∧ w'.heap[b]? = some (.cells #[.int .u32 0, .int .i32 0, .int .u32 0, .nilIface, .slice (some ⟨g, 0, none⟩) 4 cap] 79 (0, 0)) ∧ w'.cell? ⟨g, 0, none⟩ = some (.string s0) ∧ w'.cell? ⟨g, 1, none⟩ = some (.string s1) ∧ w'.cell? ⟨g, 2, none⟩ = some (.string s2) ∧ w'.cell? ⟨g, 3, none⟩ = some (.string s3) ∧ W.heap.size ≤ b ∧ W.heap.size ≤ g ∧ Below W.heap.size W w' := by
  obtain ⟨iS, hi, hz, hs, hb⟩ := impl_bare.infoS
  have IS := Aside0.mk hi
  have ZS := Aside0.mk hz
  have SS := Aside0.mk hs
  have BS := Aside0.mk hb
  have H0 := Aside0.mk h0
  have H1 := Aside0.mk h1
  have H2 := Aside0.mk h2
  have H3 := Aside0.mk h3
  clear hi hz hs hb h0 h1 h2 h3
  have hrem : Int.tmod 4 2 = 0 := by decide
  go_enter Tryz.func51, Tryz.ntmps51
  go_wp2_with (at_builtin; (refine wpList_append_own _ rfl _ _ 22 rfl W.heap.size 9 iS (.string ⟨#[]⟩) 1 16 Tryz.underlying22 IS.out ZS.out SS.out BS.out rfl (by decide) (.slice none 0 0) 0 [] rfl (World.ownsRow_nil _ _ _ _) ⟨a, 0, none⟩ 4 4 [.string s0, .string s1, .string s2, .string s3] rfl rfl (impl_bare.src4 H0.out H1.out H2.out H3.out) (fun u hu => by simp at hu; rcases hu with rfl | rfl | rfl | rfl <;> rfl) (by unfold maxLen; omega) (by omega) (Nat.le_refl _) ?_); intro v1 w1 hown hgrow hiff; have HGR := Aside0.mk hgrow; clear hgrow hiff; obtain ⟨g, cap, rfl, hg1, hg2, c0, c1, c2, c3⟩ := impl_bare.own4 hown; have HG := Aside0.mk hg1; have HG2 := Aside0.mk hg2; have C0 := Aside0.mk c0; have C1 := Aside0.mk c1; have C2 := Aside0.mk c2; have C3 := Aside0.mk c3; clear hown hg1 hg2 c0 c1 c2 c3)
  go_ret
  have hb1 : Below W.heap.size W w1 := pw_below_grown (Below.refl _ _) none (Nat.le_refl _) HGR.out (fun k hk => by cases hk)
  have ha : ∀ o, Below w1.heap.size w1 (w1.alloc o) := fun o => below_alloc (Below.refl _ _) o
  exact ⟨w1.heap.size, g, cap, rfl, heap_alloc_new w1 _, pw_cell_below (ha _) C0.out, pw_cell_below (ha _) C1.out, pw_cell_below (ha _) C2.out, pw_cell_below (ha _) C3.out, hb1.size, HG.out, below_step hb1 (ha _)⟩
theorem impl_bare.setCells_blk {b t : Nat} : ∀ (vs : List Value) (o : Nat) (w : World) (cs : Array Value), w.heap[b]? = some (.cells cs t (0, 0)) → ∃ ds : Array Value, (w.setCells b o vs).heap[b]? = some (.cells ds t (0, 0)) ∧ ds.size = cs.size
  | [], _, _, cs, h => ⟨cs, h, rfl⟩
  | v :: r, o, w, cs, h => by
    obtain ⟨ds, h1, h2⟩ := impl_bare.setCells_blk r (o + 1) (w.setCell ⟨b, o, none⟩ v) _ (heap_setCell_same w b o cs t v h)
    exact ⟨ds, h1, by rw [h2]; simp⟩
theorem impl_bare.bel_set {B b : Nat} {a : World} : ∀ {w : World}, Below B a w → B ≤ b → ∀ (o : Nat) (vs : List Value), Below B a (w.setCells b o vs)
  | _, h, _, _, [] => h
  | _, h, hb, o, v :: r => impl_bare.bel_set (h.setCell (p := ⟨b, o, none⟩) hb v) hb (o + 1) r
theorem impl_bare.zeros (W : World) (u : Value) (hu : u.oneCell' = true) : ∃ W2 ds, (storeCells ⟨W.heap.size, 0, none⟩ (Tryz.zeroCells126.toList.set 256 u)).run Tryz.prog (W.alloc (.cells Tryz.zeroCells126 126)) = .ok () W2 ∧ W2.heap[W.heap.size]? = some (.cells ds 126 (0, 0)) ∧ ds.size = 257 ∧ (∀ j, j < 256 → ds[j]? = some (.slice none 0 0)) ∧ ds[256]? = some u ∧ Below W.heap.size W W2 := by
  have hz : Tryz.zeroCells126.toList = List.replicate 257 (.slice none 0 0) := by kernel_rfl
  have hz2 : Tryz.zeroCells126 = (List.replicate 257 (.slice none 0 0)).toArray := by rw [← hz]
  have hnew := heap_alloc_new W (.cells (List.replicate 257 (Value.slice none 0 0)).toArray 126)
  have hl : ((List.replicate 257 (Value.slice none 0 0)).set 256 u).length = 257 := by rw [List.length_set, List.length_replicate]
  have hcell : ∀ j, j < 257 → ((W.alloc (.cells (List.replicate 257 (Value.slice none 0 0)).toArray 126)).cell? ⟨W.heap.size, j, none⟩).isSome = true := fun j hj => by
    rw [cell_of_row _ _ _ _ _ (0, 0) hnew]
    show (List.replicate 257 (Value.slice none 0 0)).toArray[j]?.isSome = true
    rw [List.getElem?_toArray, List.getElem?_replicate, if_pos hj]; rfl
  have hfz : ∀ j, (W.alloc (.cells (List.replicate 257 (Value.slice none 0 0)).toArray 126)).frozen? ⟨W.heap.size, j, none⟩ = false := fun j => frozen_of_row _ _ j _ _ hnew
  rw [hz, hz2]
  obtain ⟨ds, hb1, hb2⟩ := impl_bare.setCells_blk ((List.replicate 257 (Value.slice none 0 0)).set 256 u) (0 + 0) _ _ hnew
  have hds : ∀ j (hj : j < 257), ds[j]? = some (((List.replicate 257 (Value.slice none 0 0)).set 256 u)[j]'(by rw [hl]; exact hj)) := fun j hj => by
    have h := World.cell?_setCells_in W.heap.size ((List.replicate 257 (Value.slice none 0 0)).set 256 u) (0 + 0) (W.alloc (.cells (List.replicate 257 (Value.slice none 0 0)).toArray 126)) (fun j hj => by rw [hl] at hj; rw [show 0 + 0 + j = j by omega]; exact hcell j hj) j (by rw [hl]; exact hj)
    rw [show 0 + 0 + j = j by omega, cell_of_row _ _ _ _ _ (0, 0) hb1] at h
    exact h
  refine ⟨_, ds, run_storeCells_cells (P := Tryz.prog) W.heap.size 0 ((List.replicate 257 (Value.slice none 0 0)).set 256 u) 0 _ (fun j hj => ?_) (fun j hj => ?_) (fun v hv => ?_), hb1, by rw [hb2, List.size_toArray, List.length_replicate], fun j hj => ?_, ?_, ?_⟩
  · rw [hl] at hj
    rw [show 0 + 0 + j = j by omega]; exact hcell j hj
  · rw [show 0 + 0 + j = j by omega]; exact hfz j
  · rcases List.mem_or_eq_of_mem_set hv with hv | rfl
    · rw [List.eq_of_mem_replicate hv]; rfl
    · exact hu
  · rw [hds j (by omega), List.getElem_set, if_neg (by omega), List.getElem_replicate]
  · rw [hds 256 (by omega), List.getElem_set, if_pos rfl]
  · exact impl_bare.bel_set (below_alloc (Below.refl _ _) _) (Nat.le_refl _) _ _
def impl_bare.rows : List Value := [.string ⟨#[47]⟩, .string ⟨#[32]⟩]
/-- the replacer while it is being laid: k bytes have their bytes, m stand in the list -/
structure impl_bare.Y (B : Nat) (W : World) (n k m : Nat) (cs : Array Value) (vr : Value) (wr : World) : Prop where
  bel : Below B W wr
  lo : B ≤ n
  blk : wr.heap[n]? = some (.cells cs 126 (0, 0))
  sz : cs.size = 257
  nil : ∀ j, j < 256 → (j ≠ 47 ∨ k = 0) → (j ≠ 32 ∨ k ≤ 1) → cs[j]? = some (.slice none 0 0)
  s47 : 1 ≤ k → ∃ a c, cs[47]? = some (.slice (some a) 0 c)
  s32 : 2 ≤ k → ∃ a c, cs[32]? = some (.slice (some a) 0 c)
  at256 : cs[256]? = some vr
  row : wr.ownsRow B 9 1 vr m (impl_bare.rows.take m)
theorem impl_bare.Y.lt {B : Nat} {W : World} {n k m : Nat} {cs : Array Value} {vr : Value} {wr : World} (h : impl_bare.Y B W n k m cs vr wr) : n < wr.heap.size := (Array.getElem?_eq_some_iff.1 h.blk).1
theorem impl_bare.Y.ne {B : Nat} {W : World} {n k m : Nat} {cs : Array Value} {vr : Value} {wr : World} (h : impl_bare.Y B W n k m cs vr wr) : some n ≠ vr.ownBlock := own_ne h.row h.blk (by decide)
theorem impl_bare.Y.move {B : Nat} {W : World} {n k m : Nat} {cs : Array Value} {vr : Value} {wr w' : World} (h : impl_bare.Y B W n k m cs vr wr) (hb : Below wr.heap.size wr w') : impl_bare.Y B W n k m cs vr w' :=
  ⟨h.bel.trans ⟨hb.os, hb.tape, hb.output, hb.size, fun i hi => hb.block i (Nat.lt_of_lt_of_le hi (Nat.le_trans (Nat.le_trans h.lo (Nat.le_of_lt h.lt)) (Nat.le_refl _)))⟩, h.lo, (hb.block n h.lt).trans h.blk, h.sz, h.nil, h.s47, h.s32, h.at256, own_move h.row (fun q hq => hb.block q (h.row.lt q hq).2)⟩
theorem impl_bare.Y.push {B : Nat} {W : World} {n k m : Nat} {cs : Array Value} {vr v' : Value} {wr w' : World} (h : impl_bare.Y B W n k m cs vr wr) (ho : w'.ownsRow B 9 1 v' (m + 1) (impl_bare.rows.take (m + 1))) (hg : wr.grownBy w' vr.ownBlock) : impl_bare.Y B W n k (m + 1) (cs.setIfInBounds 256 v') v' (w'.setCell ⟨n, 256, none⟩ v') := by
  have hblk : w'.heap[n]? = some (.cells cs 126 (0, 0)) := (hg.block n h.lt h.ne).trans h.blk
  have hne := own_ne ho hblk (by decide)
  have hB : B ≤ wr.heap.size := Nat.le_trans h.lo (Nat.le_of_lt h.lt)
  refine ⟨(h.bel.grown hg hB (fun q hq => (h.row.lt q hq).1)).setCell (p := ⟨n, 256, none⟩) h.lo _, h.lo, heap_setCell_same _ _ _ _ _ _ hblk, by simpa using h.sz, fun j hj a b => ?_, fun q => ?_, fun q => ?_, ?_, own_move ho (fun q hq => heap_setCell_other _ _ _ _ (fun e => hne (by rw [hq, e])))⟩
  · rw [Array.getElem?_setIfInBounds, if_neg (by omega)]; exact h.nil j hj a b
  · rw [Array.getElem?_setIfInBounds, if_neg (by omega)]; exact h.s47 q
  · rw [Array.getElem?_setIfInBounds, if_neg (by omega)]; exact h.s32 q
  · rw [Array.getElem?_setIfInBounds, if_pos rfl, if_pos (by rw [h.sz]; omega)]
theorem impl_bare.Y.put {B : Nat} {W : World} {n k m : Nat} {cs : Array Value} {vr : Value} {wr : World} (h : impl_bare.Y B W n k m cs vr wr) (o : Nat) (ho : (k = 0 ∧ o = 47) ∨ (k = 1 ∧ o = 32)) (a : Addr) (c : Nat) : impl_bare.Y B W n (k + 1) m (cs.setIfInBounds o (.slice (some a) 0 c)) vr (wr.setCell ⟨n, o, none⟩ (.slice (some a) 0 c)) := by
  have hne := h.ne
  refine ⟨h.bel.setCell (p := ⟨n, o, none⟩) h.lo _, h.lo, heap_setCell_same _ _ _ _ _ _ h.blk, by simpa using h.sz, fun j hj x y => ?_, fun q => ?_, fun q => ?_, ?_, own_move h.row (fun q hq => heap_setCell_other _ _ _ _ (fun e => hne (by rw [hq, e])))⟩
  · rw [Array.getElem?_setIfInBounds, if_neg (by omega)]; exact h.nil j hj (by omega) (by omega)
  · rw [Array.getElem?_setIfInBounds]
    by_cases e : o = 47
    · rw [if_pos e, if_pos (by rw [h.sz]; omega)]; exact ⟨a, c, rfl⟩
    · rw [if_neg e]; exact h.s47 (by omega)
  · rw [Array.getElem?_setIfInBounds]
    by_cases e : o = 32
    · rw [if_pos e, if_pos (by rw [h.sz]; omega)]; exact ⟨a, c, rfl⟩
    · rw [if_neg e]; exact h.s32 (by omega)
  · rw [Array.getElem?_setIfInBounds, if_neg (by omega)]; exact h.at256
theorem impl_bare.Y.mid {B : Nat} {W : World} {n k m : Nat} {cs : Array Value} {vr : Value} {wr w' : World} (h : impl_bare.Y B W n k m cs vr wr) (hg : wr.grownBy w' vr.ownBlock) : w'.cell? ⟨n, 256, none⟩ = some vr ∧ w'.frozen? ⟨n, 256, none⟩ = false := by
  have hblk : w'.heap[n]? = some (.cells cs 126 (0, 0)) := (hg.block n h.lt h.ne).trans h.blk
  exact ⟨(cell_of_row _ _ 256 _ _ (0, 0) hblk).trans h.at256, frozen_of_row _ _ _ _ _ hblk⟩
theorem impl_bare.conv1 (w : World) (c : UInt8) (n : Int) (hn : (c.toNat : Int) = n) : (convert 81 9 (.slice (some ⟨w.heap.size, 0, none⟩) 1 1)).run Tryz.prog (w.alloc (.cells #[.int .u8 n] 5)) = .ok (.string ⟨#[c]⟩) (w.alloc (.cells #[.int .u8 n] 5)) :=
  run_convert_bytes_back (P := Tryz.prog) (w.alloc (.cells #[.int .u8 n] 5)) 81 9 5 ⟨w.heap.size, 0, none⟩ 1 [c] Tryz.underlying81 Tryz.underlying5 Tryz.underlying9 (fun j hj => by
    have : j = 0 := by simpa using hj
    subst this
    show (w.alloc (.cells #[.int .u8 n] 5)).cell? ⟨w.heap.size, 0, none⟩ = _
    rw [cell_of_row _ _ 0 _ _ (0, 0) (heap_alloc_new w _), ← hn]
    rfl)
theorem impl_bare.src1 {w : World} {s : ByteArray} (j : Nat) (u : Value) (hu : [Value.string s][j]? = some u) (a : Addr) (ha : w.cell? a = some (.string s)) : w.cell? (a.add j) = some u := by
  cases j with
  | zero =>
    obtain rfl : Value.string s = u := by simpa using hu
    exact ha
  | succ j => simp at hu
theorem impl_bare.le2 {B : Nat} {W : World} {n k m : Nat} {cs : Array Value} {vr : Value} {wr : World} {o1 o2 : Obj} (h : impl_bare.Y B W n k m cs vr wr) : B ≤ ((wr.alloc o1).alloc o2).heap.size := by
  have a := h.lo
  have b := h.lt
  simp
  omega
theorem impl_bare.store1 {w : World} {n o B m : Nat} {v u : Value} {xs : List Value} (hc : w.cell? ⟨n, o, none⟩ = some u) (hz : w.frozen? ⟨n, o, none⟩ = false) (ho : w.ownsRow B 9 1 v m xs) : (storeCells ⟨n, o, none⟩ [v]).run Tryz.prog w = .ok () (w.setCell ⟨n, o, none⟩ v) := by
  have h1 : v.oneCell' = true := by
    rcases ho.2 with ⟨rfl, _⟩ | ⟨g, cap, cur, rfl, _⟩ <;> rfl
  have h := run_storeCells_cells (P := Tryz.prog) n o [v] 0 w (fun j hj => by
    obtain rfl : j = 0 := by simpa using hj
    show (w.cell? ⟨n, o, none⟩).isSome = true
    rw [hc]; rfl) (fun j hj => by
    obtain rfl : j = 0 := by simpa using hj
    exact hz) (fun x hx => by rw [List.mem_singleton.1 hx]; exact h1)
  exact h
theorem impl_bare.convE (w : World) : ∃ W6 C, (convert 9 81 (.string ⟨#[]⟩)).run Tryz.prog w = .ok (.slice (some ⟨w.heap.size, 0, none⟩) 0 C) W6 ∧ Below w.heap.size w W6 :=
  ⟨_, _, Lib.run_convert_string_bytes (P := Tryz.prog) w 9 81 5 ⟨#[]⟩ (u := .string) Tryz.underlying9 Tryz.underlying81 Tryz.underlying5, Lib.bytesWorld_below w 5 _⟩
theorem impl_bare.Y.first {W w3 W2 : World} {ds : Array Value} {q : Nat} (hown : w3.ownsRow W.heap.size 9 1 (.slice (some ⟨q, 0, none⟩) 0 2) 0 []) (hg : W.grownBy w3 none) (hb1 : W2.heap[w3.heap.size]? = some (.cells ds 126 (0, 0))) (hb2 : ds.size = 257) (hb3 : ∀ j, j < 256 → ds[j]? = some (.slice none 0 0)) (hb4 : ds[256]? = some (.slice (some ⟨q, 0, none⟩) 0 2)) (hb5 : Below w3.heap.size w3 W2) : impl_bare.Y W.heap.size W w3.heap.size 0 0 ds (.slice (some ⟨q, 0, none⟩) 0 2) W2 :=
  ⟨below_step (pw_below_grown (Below.refl _ _) none (Nat.le_refl _) hg (fun k hk => by cases hk)) hb5, hg.size, hb1, hb2, fun j hj _ _ => hb3 j hj, fun h => by omega, fun h => by omega, hb4, own_move hown (fun k hk => hb5.block k (hown.lt k hk).2)⟩
theorem impl_bare.nil_ (w : World) (a : Option Addr) (n c : Nat) : (binOp .eql 81 (.slice a n c) (.slice none 0 0)).run Tryz.prog w = .ok (.bool (a == none)) w := by
  rw [Lib.run_eql_slice_nil w _ _ a n c 0 0 Tryz.underlying81]
  cases a <;> rfl
def impl_bare.keep (c : UInt8) : Bool := decide (c ≠ 47) && decide (c ≠ 32)
def impl_bare.opp (s : ByteArray) : ByteArray := ⟨(s.data.toList.filter impl_bare.keep).toArray⟩
/-- the replacer of bytes by texts lies at t: none for the blank and the stroke -/
structure impl_bare.ready (B t : Nat) (w : World) : Prop where
  lo : B ≤ t
  nil : ∀ j, j < 256 → j ≠ 47 → j ≠ 32 → w.cell? ⟨t, j, none⟩ = some (.slice none 0 0)
  s47 : ∃ a c, w.cell? ⟨t, 47, none⟩ = some (.slice (some a) 0 c)
  s32 : ∃ a c, w.cell? ⟨t, 32, none⟩ = some (.slice (some a) 0 c)
  list : ∃ g c, B ≤ g ∧ w.cell? ⟨t, 256, none⟩ = some (.slice (some ⟨g, 0, none⟩) 2 c) ∧ w.cell? ⟨g, 0, none⟩ = some (.string ⟨#[47]⟩) ∧ w.cell? ⟨g, 1, none⟩ = some (.string ⟨#[32]⟩)
theorem impl_bare.ready_on {B t b : Nat} {w X : World} (h : impl_bare.ready B t w) (hk : ∀ x : Addr, x.block ≠ b → X.cell? x = w.cell? x) (hb : b < B) : impl_bare.ready B t X := by
  have ht : t ≠ b := by have := h.lo; omega
  obtain ⟨a1, c1, e1⟩ := h.s47
  obtain ⟨a2, c2, e2⟩ := h.s32
  obtain ⟨g, c, hg, e3, e4, e5⟩ := h.list
  have hgb : g ≠ b := by omega
  exact ⟨h.lo, fun j a b c => (hk _ ht).trans (h.nil j a b c), ⟨a1, c1, (hk _ ht).trans e1⟩, ⟨a2, c2, (hk _ ht).trans e2⟩, g, c, hg, (hk _ ht).trans e3, (hk _ hgb).trans e4, (hk _ hgb).trans e5⟩
theorem impl_bare.Y.ready {B : Nat} {W : World} {n : Nat} {cs : Array Value} {vr : Value} {wr : World} (h : impl_bare.Y B W n 2 2 cs vr wr) : impl_bare.ready B n wr := by
  have cl : ∀ j, wr.cell? ⟨n, j, none⟩ = cs[j]? := fun j => cell_of_row _ _ j _ _ (0, 0) h.blk
  obtain ⟨a1, c1, e1⟩ := h.s47 (by omega)
  obtain ⟨a2, c2, e2⟩ := h.s32 (by omega)
  obtain ⟨g, c, rfl⟩ : ∃ g c, vr = .slice (some ⟨g, 0, none⟩) 2 c := by
    rcases h.row.2 with ⟨_, h'⟩ | ⟨g, cap, cur, h', _⟩
    · omega
    · exact ⟨g, cap, h'⟩
  have hl := h.row.lt g rfl
  refine ⟨h.lo, fun j x y z => (cl j).trans (h.nil j x (Or.inl y) (Or.inl z)), ⟨a1, c1, (cl 47).trans e1⟩, ⟨a2, c2, (cl 32).trans e2⟩, g, c, hl.1, (cl 256).trans h.at256, ?_, ?_⟩
  · rw [World.ownsRow.cellAt h.row 0 (by omega)]; rfl
  · rw [World.ownsRow.cellAt h.row 1 (by omega)]; rfl
set_option maxRecDepth 100000 in
set_option maxHeartbeats 8000000 in
theorem impl_bare.build (b g cap : Nat) (W : World) (hc : W.cell? ⟨b, 4, none⟩ = some (.slice (some ⟨g, 0, none⟩) 4 cap)) (h0 : W.cell? ⟨g, 0, none⟩ = some (.string ⟨#[32]⟩)) (h1 : W.cell? ⟨g, 1, none⟩ = some (.string ⟨#[]⟩)) (h2 : W.cell? ⟨g, 2, none⟩ = some (.string ⟨#[47]⟩)) (h3 : W.cell? ⟨g, 3, none⟩ = some (.string ⟨#[]⟩)) :
    Calls Tryz.prog 77 #[.pointer (some ⟨b, 0, none⟩)] W fun e w' => ∃ t, e = .returned (.iface 127 (.pointer (some ⟨t, 0, none⟩))) ∧ impl_bare.ready W.heap.size t w' ∧ Below W.heap.size W w' := by
  obtain ⟨iS, hi, hz, hs, hb⟩ := impl_bare.infoS
  have IS := Aside0.mk hi
  have ZS := Aside0.mk hz
  have SS := Aside0.mk hs
  have BS := Aside0.mk hb
  clear hi hz hs hb
  have e47 : ∀ (h : 0 < (⟨#[47]⟩ : ByteArray).size), ((⟨#[47]⟩ : ByteArray)[0]'h).toNat = 47 := fun _ => rfl
  have e32 : ∀ (h : 0 < (⟨#[32]⟩ : ByteArray).size), ((⟨#[32]⟩ : ByteArray)[0]'h).toNat = 32 := fun _ => rfl
  have hnil : ∀ (w : World) (a : Option Addr) (n c : Nat), (binOp .eql 81 (.slice a n c) (.slice none 0 0)).run Tryz.prog w = .ok (.bool (a == none)) w := fun w a n c => impl_bare.nil_ w a n c
  go_enter Tryz.func77, Tryz.ntmps77
  go_wp2_with fail
  go_loopg [4, 5] 2 (fun gg v4 v5 w' => ∃ k : Nat, k ≤ 2 ∧ 2 - k ≤ gg ∧ v4 = .bool (decide (k = 0)) ∧ v5 = .int .i64 ((2 * k : Nat) : Int) ∧ w' = W)
  case atStart => exact ⟨0, by omega, by omega, rfl, rfl, rfl⟩
  case round =>
    obtain ⟨k, hk, hg, rfl, rfl, rfl⟩ := hrel
    match k, hk with
    | 0, _ =>
      go_wp2_with fail
      go_roundg 1
      case measure => omega
      case rel => exact ⟨1, by omega, by omega, rfl, rfl, rfl⟩
    | 1, _ =>
      go_wp2_with fail
      go_roundg 0
      case measure => omega
      case rel => exact ⟨2, by omega, by omega, rfl, rfl, rfl⟩
    | 2, _ =>
      have e4 : ((2 * 2 : Nat) : Int) = 4 := rfl
      have eq4 : Int.tdiv 4 2 = 2 := by decide
      go_wp2_with (at_make; (refine wpList_make_own _ rfl (.const (.int .i64 0)) (.tmp 93) 22 rfl wr.heap.size 9 iS (.string ⟨#[]⟩) 1 Tryz.underlying22 IS.out ZS.out SS.out .i64 .i64 2 2 rfl rfl rfl (by rw [BS.out]; omega) (by unfold maxLen; omega) (Nat.le_refl _) ?_); intro w3 hown hgrow; obtain ⟨W2, ds, hst, hb1, hb2, hb3, hb4, hb5⟩ := impl_bare.zeros w3 (.slice (some ⟨wr.heap.size, 0, none⟩) 0 2) rfl; have HY := Aside0.mk (impl_bare.Y.first hown hgrow hb1 hb2 hb3 hb4 hb5); clear hown hgrow hb1 hb2 hb3 hb4 hb5)
      clear hst
      go_loopg [12] 2 (fun gg v12 w' => ∃ k : Nat, k ≤ 2 ∧ 2 - k ≤ gg ∧ v12 = .int .i64 (2 - 2 * (k : Int)) ∧ Aside0 (∃ cs vr, impl_bare.Y wr.heap.size wr w3.heap.size k k cs vr w'))
      case atStart => exact ⟨0, by omega, by omega, by first | rfl | (simp; done), ⟨_, _, HY.out⟩⟩
      case round =>
        clear HY
        obtain ⟨k, hk, hg, rfl, HY⟩ := hrel
        obtain ⟨cs, vr, S⟩ := HY.out
        have HS := Aside0.mk S
        have c0 := pw_cell_below S.bel h0
        have c1 := pw_cell_below S.bel h1
        have c2 := pw_cell_below S.bel h2
        have c3 := pw_cell_below S.bel h3
        have c256 := (cell_of_row _ _ 256 _ _ (0, 0) S.blk).trans S.at256
        match k, hk with
        | 0, _ =>
          have c47 := (cell_of_row _ _ 47 _ _ (0, 0) S.blk).trans (S.nil 47 (by omega) (Or.inr rfl) (Or.inl (by omega)))
          clear S HY
          go_upto_region 33 with fail
          have hcb := impl_bare.conv1 wr 47 47 rfl
          go_upto_region 34 with (at_builtin; (refine wpList_append_own _ rfl (.tmp 119) (.tmp 123) 22 rfl _ 9 iS (.string ⟨#[]⟩) 1 16 Tryz.underlying22 IS.out ZS.out SS.out BS.out rfl (by decide) vr 0 (impl_bare.rows.take 0) rfl (own_alloc (own_alloc HS.out.row _) _) ⟨wr.heap.size + 1, 0, none⟩ 1 1 [.string ⟨#[47]⟩] rfl rfl (fun j u hu => impl_bare.src1 j u hu _ (by simp)) (fun u hu => by rw [List.mem_singleton.1 hu]; rfl) (by unfold maxLen; omega) (by omega) (impl_bare.le2 HS.out) ?_); intro v' w4 hown hgrow hiff; have HS2 := Aside0.mk (impl_bare.Y.push (HS.out.move (below_alloc (below_alloc (Below.refl _ _) _) _)) hown hgrow); obtain ⟨d256, z256⟩ := impl_bare.Y.mid (HS.out.move (below_alloc (below_alloc (Below.refl _ _) _) _)) hgrow; have hstv := impl_bare.store1 d256 z256 hown; clear hown hgrow hiff)
          rw [hstv]
          clear hstv d256 z256 hcb
          go_upto_region 34 with fail
          generalize w4.setCell _ v' = w5 at HS2 ⊢
          obtain ⟨W6, C, hcv, hb6⟩ := impl_bare.convE w5
          have HS3 := Aside0.mk (HS2.out.move hb6)
          have d47 := (cell_of_row _ _ 47 _ _ (0, 0) HS3.out.blk).trans (HS3.out.nil 47 (by omega) (by omega) (by omega))
          have z47 := frozen_of_row _ _ 47 _ _ HS3.out.blk
          clear hb6 c0 c1 c2 c3 c256 c47
          go_wp2_with fail
          go_roundg 1
          case measure => omega
          case rel => exact ⟨1, by omega, by omega, by first | rfl | (simp; done), ⟨_, _, HS3.out.put 47 (by omega) _ _⟩⟩
        | 1, _ =>
          have c47 := (cell_of_row _ _ 32 _ _ (0, 0) S.blk).trans (S.nil 32 (by omega) (Or.inl (by omega)) (Or.inr (by omega)))
          clear S HY
          go_upto_region 33 with fail
          have hcb := impl_bare.conv1 wr 32 32 rfl
          go_upto_region 34 with (at_builtin; (refine wpList_append_own _ rfl (.tmp 119) (.tmp 123) 22 rfl _ 9 iS (.string ⟨#[]⟩) 1 16 Tryz.underlying22 IS.out ZS.out SS.out BS.out rfl (by decide) vr 1 (impl_bare.rows.take 1) rfl (own_alloc (own_alloc HS.out.row _) _) ⟨wr.heap.size + 1, 0, none⟩ 1 1 [.string ⟨#[32]⟩] rfl rfl (fun j u hu => impl_bare.src1 j u hu _ (by simp)) (fun u hu => by rw [List.mem_singleton.1 hu]; rfl) (by unfold maxLen; omega) (by omega) (impl_bare.le2 HS.out) ?_); intro v' w4 hown hgrow hiff; have HS2 := Aside0.mk (impl_bare.Y.push (HS.out.move (below_alloc (below_alloc (Below.refl _ _) _) _)) hown hgrow); obtain ⟨d256, z256⟩ := impl_bare.Y.mid (HS.out.move (below_alloc (below_alloc (Below.refl _ _) _) _)) hgrow; have hstv := impl_bare.store1 d256 z256 hown; clear hown hgrow hiff)
          rw [hstv]
          clear hstv d256 z256 hcb
          go_upto_region 34 with fail
          generalize w4.setCell _ v' = w5 at HS2 ⊢
          obtain ⟨W6, C, hcv, hb6⟩ := impl_bare.convE w5
          have HS3 := Aside0.mk (HS2.out.move hb6)
          have d47 := (cell_of_row _ _ 32 _ _ (0, 0) HS3.out.blk).trans (HS3.out.nil 32 (by omega) (by omega) (by omega))
          have z47 := frozen_of_row _ _ 32 _ _ HS3.out.blk
          clear hb6 c0 c1 c2 c3 c256 c47
          go_wp2_with fail
          go_roundg 0
          case measure => omega
          case rel => exact ⟨2, by omega, by omega, by first | rfl | (simp; done), ⟨_, _, HS3.out.put 32 (by omega) _ _⟩⟩
        | 2, _ =>
          clear c0 c1 c2 c3 c256
          go_wp2_with fail
          go_ret
          exact ⟨_, rfl, S.ready, S.bel⟩
set_option maxRecDepth 100000 in
set_option maxHeartbeats 8000000 in
theorem impl_bare.buildOnce (b g cap : Nat) (v0 v1 x3 : Value) (W : World) (b0 : W.cell? ⟨b, 0, none⟩ = some v0) (b1 : W.cell? ⟨b, 1, none⟩ = some v1) (b3 : W.cell? ⟨b, 3, none⟩ = some x3) (b4 : W.cell? ⟨b, 4, none⟩ = some (.slice (some ⟨g, 0, none⟩) 4 cap)) (fz : ∀ j, W.frozen? ⟨b, j, none⟩ = false)
    (h0 : W.cell? ⟨g, 0, none⟩ = some (.string ⟨#[32]⟩)) (h1 : W.cell? ⟨g, 1, none⟩ = some (.string ⟨#[]⟩)) (h2 : W.cell? ⟨g, 2, none⟩ = some (.string ⟨#[47]⟩)) (h3 : W.cell? ⟨g, 3, none⟩ = some (.string ⟨#[]⟩)) :
    Calls Tryz.prog 62 #[.pointer (some ⟨b, 0, none⟩)] W fun e w' => e = .returned (.tuple #[]) ∧ w'.cell? ⟨b, 0, none⟩ = some v0 ∧ w'.cell? ⟨b, 1, none⟩ = some v1 ∧ w'.frozen? ⟨b, 0, none⟩ = false ∧ w'.frozen? ⟨b, 1, none⟩ = false ∧ Aside0 (∃ t w2, impl_bare.ready W.heap.size t w2 ∧ Below W.heap.size W w2 ∧ w' = (w2.setCell ⟨b, 3, none⟩ (.iface 127 (.pointer (some ⟨t, 0, none⟩)))).setCell ⟨b, 4, none⟩ (.slice none 0 0)) := by
  have HB := Aside0.mk (impl_bare.build b g cap W b4 h0 h1 h2 h3)
  have hbl : b < W.heap.size := World.block_lt_of_cell? W _ b0
  have B0 := Aside0.mk b0
  have B1 := Aside0.mk b1
  have B3 := Aside0.mk b3
  have B4 := Aside0.mk b4
  have FZ := Aside0.mk fz
  clear b0 b1 b3 b4 fz h0 h1 h2 h3
  go_enter Tryz.func62, Tryz.ntmps62
  go_wp2_with (go_at_call 77; refine HB.out.mono ?_; rintro e w2 ⟨t, rfl, hr, hb⟩; have HR := Aside0.mk hr; have HB2 := Aside0.mk hb; have d3 := pw_cell_below hb B3.out; have d4 := pw_cell_below hb B4.out; have z3 : w2.frozen? ⟨b, 3, none⟩ = false := (hb.frozen (p := ⟨b, 3, none⟩) hbl).trans (FZ.out 3); have z4 : w2.frozen? ⟨b, 4, none⟩ = false := (hb.frozen (p := ⟨b, 4, none⟩) hbl).trans (FZ.out 4); clear hr hb)
  go_end0
  have n3 : (⟨b, 3, none⟩ : Addr) ≠ ⟨b, 0, none⟩ := by simp
  refine ⟨rfl, ?_, ?_, ?_, ?_, ⟨t, w2, HR.out, HB2.out, rfl⟩⟩
  · rw [World.cell?_setCell_other _ _ _ _ (by simp), World.cell?_setCell_other _ _ _ _ (by simp)]; exact pw_cell_below HB2.out B0.out
  · rw [World.cell?_setCell_other _ _ _ _ (by simp), World.cell?_setCell_other _ _ _ _ (by simp)]; exact pw_cell_below HB2.out B1.out
  · rw [World.frozen?_setCell, World.frozen?_setCell, HB2.out.frozen (p := ⟨b, 0, none⟩) hbl]; exact FZ.out 0
  · rw [World.frozen?_setCell, World.frozen?_setCell, HB2.out.frozen (p := ⟨b, 1, none⟩) hbl]; exact FZ.out 1
theorem impl_bare.byte_eq (y : UInt8) (n : Nat) (c : UInt8) (hc : c.toNat = n) : y.toNat = n ↔ y = c := by
  constructor
  · intro h; exact UInt8.toNat_inj.1 (by omega)
  · rintro rfl; exact hc
theorem impl_bare.at_keep {B t : Nat} {w : World} (h : impl_bare.ready B t w) (y : UInt8) (hk : impl_bare.keep y = true) : w.cell? ⟨t, y.toNat, none⟩ = some (.slice none 0 0) := by
  simp only [impl_bare.keep, Bool.and_eq_true, decide_eq_true_eq] at hk
  exact h.nil _ y.toNat_lt (fun q => hk.1 ((impl_bare.byte_eq y 47 47 rfl).1 q)) (fun q => hk.2 ((impl_bare.byte_eq y 32 32 rfl).1 q))
theorem impl_bare.at_drop {B t : Nat} {w : World} (h : impl_bare.ready B t w) (y : UInt8) (hk : impl_bare.keep y = false) : ∃ a c, w.cell? ⟨t, y.toNat, none⟩ = some (.slice (some a) 0 c) := by
  by_cases h1 : y = 47
  · subst h1; exact h.s47
  · by_cases h2 : y = 32
    · subst h2; exact h.s32
    · simp [impl_bare.keep, h1, h2] at hk
def impl_bare.lost (l : List UInt8) (k : Nat) : Nat := if k = 0 then 0 else if k = 1 then l.count 47 else l.count 47 + l.count 32
theorem impl_bare.lost_all : ∀ (l : List UInt8), l.count 47 + l.count 32 + (l.filter impl_bare.keep).length = l.length
  | [] => rfl
  | c :: l => by
    have ih := impl_bare.lost_all l
    by_cases h1 : c = 47
    · subst h1
      rw [List.count_cons_self, List.count_cons_of_ne (by decide), List.filter_cons_of_neg (by decide), List.length_cons]; omega
    · by_cases h2 : c = 32
      · subst h2
        rw [List.count_cons_self, List.count_cons_of_ne (by decide), List.filter_cons_of_neg (by decide), List.length_cons]; omega
      · rw [List.count_cons_of_ne h1, List.count_cons_of_ne h2, List.filter_cons_of_pos (by simp [impl_bare.keep, h1, h2]), List.length_cons, List.length_cons]; omega
theorem impl_bare.ready_below {B t : Nat} {w X : World} (h : impl_bare.ready B t w) (hb : Below w.heap.size w X) : impl_bare.ready B t X := by
  obtain ⟨a1, c1, e1⟩ := h.s47
  obtain ⟨a2, c2, e2⟩ := h.s32
  obtain ⟨g, c, hg, e3, e4, e5⟩ := h.list
  exact ⟨h.lo, fun j x y z => pw_cell_below hb (h.nil j x y z), ⟨a1, c1, pw_cell_below hb e1⟩, ⟨a2, c2, pw_cell_below hb e2⟩, g, c, hg, pw_cell_below hb e3, pw_cell_below hb e4, pw_cell_below hb e5⟩
/-- so many of the first i stay -/
def impl_bare.stay (l : List UInt8) (i : Nat) : Nat := ((l.take i).filter impl_bare.keep).length
theorem impl_bare.stay_le (l : List UInt8) (i : Nat) : impl_bare.stay l i ≤ (l.filter impl_bare.keep).length := by
  have h : (l.filter impl_bare.keep).length = ((l.take i).filter impl_bare.keep).length + ((l.drop i).filter impl_bare.keep).length := by
    rw [← List.length_append, ← List.filter_append, List.take_append_drop]
  unfold impl_bare.stay; omega
theorem impl_bare.stay_keep (l : List UInt8) (i : Nat) (h : i < l.length) (hk : impl_bare.keep l[i] = true) : impl_bare.stay l (i + 1) = impl_bare.stay l i + 1 ∧ ∃ hm : impl_bare.stay l i < (l.filter impl_bare.keep).length, (l.filter impl_bare.keep)[impl_bare.stay l i] = l[i] := by
  have e1 : impl_bare.stay l (i + 1) = impl_bare.stay l i + 1 := by
    unfold impl_bare.stay
    rw [List.take_succ_eq_append_getElem h, List.filter_append, List.filter_cons_of_pos hk, List.length_append]; rfl
  refine ⟨e1, by have := impl_bare.stay_le l (i + 1); omega, ?_⟩
  have e2 : l.filter impl_bare.keep = (l.take i).filter impl_bare.keep ++ l[i] :: (l.drop (i + 1)).filter impl_bare.keep := by
    rw [← List.filter_cons_of_pos hk, ← List.drop_eq_getElem_cons h, ← List.filter_append, List.take_append_drop]
  have e3 : (l.filter impl_bare.keep)[impl_bare.stay l i]? = some l[i] := by
    rw [e2]
    unfold impl_bare.stay
    rw [List.getElem?_append_right (Nat.le_refl _), Nat.sub_self]; rfl
  exact (List.getElem?_eq_some_iff.1 e3).2
theorem impl_bare.stay_drop (l : List UInt8) (i : Nat) (h : i < l.length) (hk : impl_bare.keep l[i] = false) : impl_bare.stay l (i + 1) = impl_bare.stay l i := by
  unfold impl_bare.stay
  rw [List.take_succ_eq_append_getElem h, List.filter_append, List.filter_cons_of_neg (by rw [hk]; simp), List.length_append]; rfl
theorem impl_bare.stay_all (l : List UInt8) : impl_bare.stay l l.length = (l.filter impl_bare.keep).length := by unfold impl_bare.stay; rw [List.take_length]
theorem impl_bare.same_ (s : ByteArray) (h : 0 + (s.data.toList.filter impl_bare.keep).length = s.size) : impl_bare.opp s = s := by
  have hl : s.data.toList.length = s.size := Array.length_toList
  have e : s.data.toList.filter impl_bare.keep = s.data.toList := List.filter_eq_self.2 (List.length_filter_eq_length_iff.1 (by omega))
  unfold impl_bare.opp
  rw [e]
theorem impl_bare.splice0 {w : World} {g t : Nat} {cur : List Value} (h : w.heap[g]? = some (.cells (splice cur 0 []).toArray t (0, 0))) : w.heap[g]? = some (.cells cur.toArray t (0, 0)) := by
  rw [h]; simp [splice]
theorem impl_bare.infoB : ∃ i, Tryz.prog.info? 5 = some i ∧ i.zero = some (.int .u8 0) ∧ i.size = 1 ∧ i.bytes = 1 := by
  have h : (Tryz.prog.info? 5).map (fun i => (i.zero, i.size, i.bytes)) = some (some (.int .u8 0), 1, 1) := by kernel_rfl
  obtain ⟨i, hi, he⟩ := Option.map_eq_some_iff.1 h
  simp only [Prod.mk.injEq] at he
  exact ⟨i, hi, he⟩
theorem impl_bare.made_ {w : World} {g m : Nat} (h : w.ownsRow 0 5 1 (.slice (some ⟨g, 0, none⟩) m m) m (madeCells (Value.int .u8 0).cells (m * 1)).toList) : w.heap[g]? = some (.cells (List.replicate m (Value.int .u8 0)).toArray 5 (0, 0)) := by
  rcases h.2 with ⟨h', _⟩ | ⟨g', cap', cur, h', _, hg, _, _, hsz, htake⟩
  · simp at h'
  · simp only [Value.slice.injEq, Option.some.injEq, Addr.mk.injEq, and_true, true_and] at h'
    obtain ⟨rfl, rfl⟩ := h'
    have e : (madeCells (Value.int .u8 0).cells (m * 1)).toList = List.replicate m (.int .u8 0) := by
      rw [Nat.mul_one]; exact toList_madeCells_one (.int .u8 0) m
    rw [e, List.take_of_length_le (by rw [Array.length_toList, hsz]; exact Nat.le_refl _)] at htake
    rw [hg, ← htake]
set_option maxRecDepth 100000 in
set_option maxHeartbeats 16000000 in
theorem impl_bare.replace (B t : Nat) (s : ByteArray) (hs : s.size ≤ 1000000) (W : World) (hR : impl_bare.ready B t W) (hcount : ∀ (c : UInt8) (w : World), Calls Tryz.prog 153 #[.string s, .string ⟨#[c]⟩] w fun e w' => e = .returned (.int .i64 (s.data.toList.count c : Nat)) ∧ ∃ nd, w' = w.drewN nd) :
    Calls Tryz.prog 151 #[.pointer (some ⟨t, 0, none⟩), .string s] W fun e w' => e = .returned (.string (impl_bare.opp s)) ∧ Below W.heap.size W w' := by
  obtain ⟨g, c, hg, c256, cg0, cg1⟩ := hR.list
  have HR := Aside0.mk hR
  have HC := Aside0.mk hcount
  clear hR hcount
  have hl : s.data.toList.length = s.size := Array.length_toList
  have hlost := impl_bare.lost_all s.data.toList
  have e47 : ∀ (h : 0 < (⟨#[47]⟩ : ByteArray).size), ((⟨#[47]⟩ : ByteArray)[0]'h).toNat = 47 := fun _ => rfl
  have e32 : ∀ (h : 0 < (⟨#[32]⟩ : ByteArray).size), ((⟨#[32]⟩ : ByteArray)[0]'h).toNat = 32 := fun _ => rfl
  obtain ⟨n47, h47⟩ : ∃ n, n = s.data.toList.count 47 := ⟨_, rfl⟩
  obtain ⟨n32, h32⟩ : ∃ n, n = s.data.toList.count 32 := ⟨_, rfl⟩
  have HC47 := HC.out 47
  have HC32 := HC.out 32
  rw [← h47] at HC47 hlost
  rw [← h32] at HC32 hlost
  have H47 := Aside0.mk HC47
  have H32 := Aside0.mk HC32
  have HL := Aside0.mk hlost
  clear HC47 HC32 HC h47 h32 hlost
  obtain ⟨a1, k1, s47⟩ := HR.out.s47
  obtain ⟨a2, k2, s32⟩ := HR.out.s32
  go_enter Tryz.func151, Tryz.ntmps151
  by_cases hbig : 16 ≤ s.size
  · have hbz : (16 : Int) ≤ (s.size : Int) := by omega
    go_wp2_with fail
    go_loopg [5, 6, 32] 2 (fun gg v5 v6 v32 w' => ∃ k q n : Nat, k ≤ 2 ∧ 2 - k ≤ gg ∧ v32 = .int .i64 (k : Int) ∧ w' = W.drewN q ∧ Aside0 (n = (if k = 0 then 0 else if k = 1 then n47 else n47 + n32)) ∧ v5 = .int .i64 ((s.size : Int) - (n : Int)) ∧ v6 = .bool (decide (0 < n)))
    case atStart => exact ⟨0, 0, 0, by omega, by omega, rfl, rfl, ⟨rfl⟩, by simp, rfl⟩
    case round =>
      obtain ⟨k, q, n, hk, hgg, rfl, rfl, hn, rfl, rfl⟩ := hrel
      match k, hk, hn with
      | 0, _, hn =>
        have hn0 : n = 0 := by simpa using hn.out
        subst hn0
        clear hn
        by_cases hz : n47 = 0
        · subst hz
          go_wp2_with (go_at_call 153; refine (H47.out _).mono ?_; rintro e w' ⟨rfl, nd, rfl⟩)
          go_roundg 1
          case measure => omega
          case rel => exact ⟨1, q + nd, 0, by omega, by omega, rfl, rfl, ⟨rfl⟩, by simp, rfl⟩
        · have hzz : ¬ ((n47 : Int) = 0) := by omega
          have hw1 : IntKind.i64.wrap (-(n47 : Int)) = -(n47 : Int) := by rw [IntKind.wrap_i64]; have := HL.out; omega
          have hw2 : IntKind.i64.wrap ((s.size : Int) + -(n47 : Int)) = (s.size : Int) - (n47 : Int) := by rw [IntKind.wrap_i64]; have := HL.out; omega
          go_wp2_with (go_at_call 153; refine (H47.out _).mono ?_; rintro e w' ⟨rfl, nd, rfl⟩)
          go_quiet (fail)
          go_wp2_with fail
          go_roundg 1
          case measure => omega
          case rel => exact ⟨1, _, n47, by omega, by omega, rfl, rfl, ⟨rfl⟩, by simp [hw1, hw2], by simp; omega⟩
      | 1, _, hn =>
        have hn0 : n = n47 := by simpa using hn.out
        subst hn0
        clear hn
        by_cases hz : n32 = 0
        · subst hz
          go_wp2_with (go_at_call 153; refine (H32.out _).mono ?_; rintro e w' ⟨rfl, nd, rfl⟩)
          go_roundg 0
          case measure => omega
          case rel => exact ⟨2, q + nd, n, by omega, by omega, rfl, rfl, ⟨by simp⟩, rfl, rfl⟩
        · have hzz : ¬ ((n32 : Int) = 0) := by omega
          have hw1 : IntKind.i64.wrap (-(n32 : Int)) = -(n32 : Int) := by rw [IntKind.wrap_i64]; have := HL.out; omega
          have hw2 : IntKind.i64.wrap ((s.size : Int) - (n : Int) + -(n32 : Int)) = (s.size : Int) - ((n + n32 : Nat) : Int) := by rw [IntKind.wrap_i64]; have := HL.out; omega
          go_wp2_with (go_at_call 153; refine (H32.out _).mono ?_; rintro e w' ⟨rfl, nd, rfl⟩)
          go_quiet (fail)
          go_wp2_with fail
          go_roundg 0
          case measure => omega
          case rel => exact ⟨2, _, n + n32, by omega, by omega, rfl, rfl, ⟨by simp⟩, by first | rfl | simp [hw1, hw2], by simp; omega⟩
      | 2, _, hn =>
        have hn0 : n = n47 + n32 := by simpa using hn.out
        have HN := Aside0.mk (show n + (s.data.toList.filter impl_bare.keep).length = s.size by have := HL.out; omega)
        clear hn hn0 H47 H32 HL s47 s32 c256 cg0 cg1
        have HRq := Aside0.mk (impl_bare.ready_below HR.out (pw_below_drewN (Below.refl _ W) q))
        have HBq := Aside0.mk (pw_below_drewN (Below.refl W.heap.size W) q)
        generalize W.drewN q = wq at HRq HBq ⊢
        obtain ⟨m, hm⟩ : ∃ m, m = (s.data.toList.filter impl_bare.keep).length := ⟨_, rfl⟩
        have HM := Aside0.mk hm
        have HNM := Aside0.mk (show n + m = s.size by rw [hm]; exact HN.out)
        clear hm
        have e5 : (s.size : Int) - (n : Int) = (m : Int) := by have := HNM.out; omega
        rw [e5]
        clear e5
        by_cases hz : n = 0
        · subst hz
          go_wp2_with fail
          go_ret
          exact ⟨by rw [impl_bare.same_ s HN.out]; rfl, HBq.out⟩
        · have hd : decide (0 < n) = true := decide_eq_true (by omega)
          rw [hd]
          clear hd
          have hms : m ≤ 1000000 := by have := HNM.out; omega
          obtain ⟨iB, hi, hz1, hs1, hb1⟩ := impl_bare.infoB
          have IB := Aside0.mk hi
          have ZB := Aside0.mk hz1
          have SB := Aside0.mk hs1
          have BB := Aside0.mk hb1
          clear hi hz1 hs1 hb1
          go_wp2_with (at_make; (refine wpList_make_full _ rfl (.tmp 84) (.tmp 84) 81 rfl 0 5 iB _ 1 Tryz.underlying81 IB.out ZB.out SB.out .i64 .i64 (m : Int) (m : Int) m rfl rfl rfl rfl (by rw [BB.out]; omega) (by unfold maxLen; omega) (Nat.zero_le _) ?_); intro w3 hown hgrow; have HO := Aside0.mk (impl_bare.made_ hown); have HG3 := Aside0.mk (pw_below_grown (Below.refl _ _) none (Nat.le_refl _) hgrow (fun k hk => by cases hk)); clear hown hgrow)
          have hneq : ∀ (w : World) (a : Option Addr) (n c : Nat), (binOp .neq 81 (.slice a n c) (.slice none 0 0)).run Tryz.prog w = .ok (.bool (!a.isNone)) w := fun w a n c => run_neq_slice_nil_any w _ _ a n c 0 0 Tryz.underlying81
          go_loopg [13, 14] s.size (fun gg v13 v14 w' => ∃ (i j : Nat) (cur : List Value), i ≤ s.size ∧ s.size - i ≤ gg ∧ v14 = .int .i64 (i : Int) ∧ v13 = .int .i64 (j : Int) ∧ Aside0 (j = impl_bare.stay s.data.toList i) ∧ Aside0 (w'.heap[wq.heap.size]? = some (.cells cur.toArray 5 (0, 0))) ∧ Aside0 (cur.length = m ∧ ∀ q (hq : q < (s.data.toList.filter impl_bare.keep).length), q < j → cur[q]? = some (.int .u8 (((s.data.toList.filter impl_bare.keep)[q]).toNat : Int))) ∧ Aside0 (Below wq.heap.size wq w'))
          case atStart => exact ⟨0, 0, _, Nat.zero_le _, Nat.le_refl _, rfl, rfl, ⟨by unfold impl_bare.stay; simp⟩, HO, ⟨by simp, fun q _ h => by omega⟩, HG3⟩
          case round =>
            clear HO HG3
            obtain ⟨i, j, cur, hi, hgg, rfl, rfl, HJ, HBK, HCU, HBL⟩ := hrel
            have HRw := Aside0.mk (impl_bare.ready_below HRq.out HBL.out)
            by_cases hlt : i < s.size
            · have hltz : (i : Int) < (s.size : Int) := by omega
              have i0 : (0 : Int) ≤ (i : Int) := by omega
              have j0 : (0 : Int) ≤ (j : Int) := by omega
              obtain ⟨y, hsy, hly⟩ : ∃ y, s[i] = y ∧ s.data.toList[i]'(by omega) = y := ⟨s[i], rfl, rfl⟩
              have HLY := Aside0.mk hly
              have hy256 : (y.toNat : Int) < 256 := by have := y.toNat_lt; omega
              have hjm : j ≤ m := by have := impl_bare.stay_le s.data.toList i; rw [HJ.out, HM.out]; exact this
              have hjz : (j : Int) ≤ (m : Int) := by omega
              cases hk : impl_bare.keep y with
              | true =>
                have hsk := impl_bare.stay_keep s.data.toList i (by omega) (by rw [hly]; exact hk)
                have hjlt : j < m := by rw [HJ.out, HM.out]; exact hsk.2.1
                have hjltz : (j : Int) < (m : Int) := by omega
                have HSK := Aside0.mk hsk
                have ct := impl_bare.at_keep HRw.out y hk
                have cb := cell_of_row _ _ j _ _ (0, 0) HBK.out
                obtain ⟨vj, hvj⟩ : ∃ v, cur[j]? = some v := ⟨_, List.getElem?_eq_getElem (by have := HCU.out.1; omega)⟩
                rw [List.getElem?_toArray, hvj] at cb
                have fb := frozen_of_row _ _ j _ _ HBK.out
                have HNX := Aside0.mk (heap_setCell_same _ _ j _ _ (Value.int .u8 (y.toNat : Int)) HBK.out)
                clear hly hk hsk hvj
                go_wp2_with fail
                go_roundg (s.size - (i + 1))
                case measure => omega
                case rel =>
                  refine ⟨i + 1, j + 1, cur.set j (.int .u8 (y.toNat : Int)), by omega, by omega, by go_num, by go_num, ⟨by rw [HSK.out.1, ← HJ.out]⟩, ⟨by rw [HNX.out, List.setIfInBounds_toArray]⟩, ⟨by rw [List.length_set]; exact HCU.out.1, fun q hq hqj => ?_⟩, ⟨HBL.out.setCell (p := ⟨wq.heap.size, j, none⟩) (Nat.le_refl _) _⟩⟩
                  rw [List.getElem?_set]
                  by_cases e : j = q
                  · subst e
                    rw [if_pos rfl, if_pos (by have := HCU.out.1; omega)]
                    have h2 := HSK.out.2.2
                    have h3 := HJ.out
                    subst h3
                    rw [h2, HLY.out]
                  · rw [if_neg e]; exact HCU.out.2 q hq (by omega)
              | false =>
                have hsd := impl_bare.stay_drop s.data.toList i (by omega) (by rw [hly]; exact hk)
                have HSD := Aside0.mk hsd
                obtain ⟨ad, cd, ct⟩ := impl_bare.at_drop HRw.out y hk
                clear hly hk hsd
                by_cases hmj : m = j
                · have hmn : (m = j) = True := eq_true hmj
                  clear hmj
                  have hwj : IntKind.i64.wrap (j : Int) = (j : Int) := by rw [IntKind.wrap_i64]; omega
                  go_wp2_with fail
                  go_region_law (refine step_copy_splice rfl (.tmp 105) (.tmp 111) 81 81 rfl 5 Tryz.underlying81 (by kernel_rfl) (some ⟨wq.heap.size, 0, none⟩) (some ad) (m - j) (m - j) 0 cd (by go_simp) (by go_simp) wq.heap.size 0 cur 5 HBK.out [] (by simp) (fun h => absurd h (by simp)) (by simp) (fun v hv => by simp at hv) wq.heap.size wq (below_drew HBL.out) (Nat.le_refl _) ?_; intro w5 HG5 hb5; have HB5 := Aside0.mk hb5; have HG6 := Aside0.mk (impl_bare.splice0 HG5.out); clear hb5 HG5)
                  go_wp2_with fail
                  go_roundg (s.size - (i + 1))
                  case measure => omega
                  case rel => exact ⟨i + 1, j, cur, by omega, by omega, by go_num, rfl, ⟨by rw [HSD.out]; exact HJ.out⟩, HG6, HCU, HB5⟩
                · have hmn : (m = j) = False := eq_false hmj
                  clear hmj
                  have hwj : IntKind.i64.wrap (j : Int) = (j : Int) := by rw [IntKind.wrap_i64]; omega
                  go_wp2_with fail
                  go_region_law (refine step_copy_splice rfl (.tmp 105) (.tmp 111) 81 81 rfl 5 Tryz.underlying81 (by kernel_rfl) (some ⟨wq.heap.size, j, none⟩) (some ad) (m - j) (m - j) 0 cd (by go_simp) (by go_simp) wq.heap.size 0 cur 5 HBK.out [] (by simp) (fun h => absurd h (by simp)) (by simp) (fun v hv => by simp at hv) wq.heap.size wq (below_drew HBL.out) (Nat.le_refl _) ?_; intro w5 HG5 hb5; have HB5 := Aside0.mk hb5; have HG6 := Aside0.mk (impl_bare.splice0 HG5.out); clear hb5 HG5)
                  go_wp2_with fail
                  go_roundg (s.size - (i + 1))
                  case measure => omega
                  case rel => exact ⟨i + 1, j, cur, by omega, by omega, by go_num, rfl, ⟨by rw [HSD.out]; exact HJ.out⟩, HG6, HCU, HB5⟩
            · have hin : i = s.size := by omega
              subst hin
              have hltz : ¬ ((s.size : Int) < (s.size : Int)) := by omega
              have hjm : j = m := by rw [HJ.out, HM.out, ← hl]; exact impl_bare.stay_all s.data.toList
              subst hjm
              have hk := run_convert_bytes_back (P := Tryz.prog) wr 81 9 5 ⟨wq.heap.size, 0, none⟩ j (s.data.toList.filter impl_bare.keep) Tryz.underlying81 Tryz.underlying5 Tryz.underlying9 (fun q hq => by
                have ea : (⟨wq.heap.size, 0, none⟩ : Addr).add q = ⟨wq.heap.size, q, none⟩ := by
                  unfold Addr.add
                  by_cases h0 : q = 0 <;> simp [h0]
                rw [ea, cell_of_row _ _ q _ _ (0, 0) HBK.out, List.getElem?_toArray]
                exact HCU.out.2 q hq (by rw [HM.out]; exact hq))
              rw [← HM.out] at hk
              have HKK := hk
              clear hk
              go_wp2_with fail
              go_ret
              exact ⟨rfl, HBq.out.trans ⟨HBL.out.os, HBL.out.tape, HBL.out.output, HBL.out.size, fun k hk => HBL.out.block k (Nat.lt_of_lt_of_le hk HBq.out.size)⟩⟩
  · have hbz : ¬ ((16 : Int) ≤ (s.size : Int)) := by omega
    have hneq : ∀ (w : World) (a : Option Addr) (n c : Nat), (binOp .neq 81 (.slice a n c) (.slice none 0 0)).run Tryz.prog w = .ok (.bool (!a.isNone)) w := fun w a n c => run_neq_slice_nil_any w _ _ a n c 0 0 Tryz.underlying81
    go_wp2_with fail
    go_loopg [5, 6, 10] s.size (fun gg v5 v6 v10 w' => ∃ i n : Nat, i ≤ s.size ∧ s.size - i ≤ gg ∧ v10 = .int .i64 (i : Int) ∧ Aside0 (n + impl_bare.stay s.data.toList i = i) ∧ Aside0 (impl_bare.ready B t w') ∧ Aside0 (Below W.heap.size W w') ∧ v5 = .int .i64 ((s.size : Int) - (n : Int)) ∧ v6 = .bool (decide (0 < n)))
    case atStart => exact ⟨0, 0, Nat.zero_le _, Nat.le_refl _, rfl, ⟨by unfold impl_bare.stay; simp⟩, HR, ⟨Below.refl _ _⟩, by simp, rfl⟩
    case round =>
      clear H47 H32 HL s47 s32 c256 cg0 cg1
      obtain ⟨i, n, hi, hgg, rfl, HN0, HRw, HBw, rfl, rfl⟩ := hrel
      by_cases hlt : i < s.size
      · have hltz : (i : Int) < (s.size : Int) := by omega
        have i0 : (0 : Int) ≤ (i : Int) := by omega
        obtain ⟨y, hsy, hly⟩ : ∃ y, s[i] = y ∧ s.data.toList[i]'(by omega) = y := ⟨s[i], rfl, rfl⟩
        have hy256 : (y.toNat : Int) < 256 := by have := y.toNat_lt; omega
        cases hk : impl_bare.keep y with
        | true =>
          have hsk := (impl_bare.stay_keep s.data.toList i (by omega) (by rw [hly]; exact hk)).1
          have HSK := Aside0.mk hsk
          have ct := impl_bare.at_keep HRw.out y hk
          clear hly hk hsk
          go_wp2_with fail
          go_roundg (s.size - (i + 1))
          case measure => omega
          case rel => exact ⟨i + 1, n, by omega, by omega, by go_num, ⟨by rw [HSK.out]; have := HN0.out; omega⟩, HRw, HBw, rfl, rfl⟩
        | false =>
          have hsd := impl_bare.stay_drop s.data.toList i (by omega) (by rw [hly]; exact hk)
          have HSD := Aside0.mk hsd
          obtain ⟨ad, cd, ct⟩ := impl_bare.at_drop HRw.out y hk
          have hni : n ≤ i := by have := HN0.out; omega
          have hw1 : IntKind.i64.wrap ((s.size : Int) - (n : Int) + -1) = (s.size : Int) - ((n + 1 : Nat) : Int) := by rw [IntKind.wrap_i64]; omega
          clear hly hk hsd
          go_wp2_with fail
          go_roundg (s.size - (i + 1))
          case measure => omega
          case rel => exact ⟨i + 1, n + 1, by omega, by omega, by go_num, ⟨by rw [HSD.out]; have := HN0.out; omega⟩, HRw, HBw, by first | rfl | simp [hw1], by simp⟩
      · have hin : i = s.size := by omega
        subst hin
        have hltz : ¬ ((s.size : Int) < (s.size : Int)) := by omega
        have HN := Aside0.mk (show n + (s.data.toList.filter impl_bare.keep).length = s.size by have h1 := HN0.out; have h2 := impl_bare.stay_all s.data.toList; rw [hl] at h2; omega)
        have HRq := HRw
        have HBq := HBw
        clear HRw HBw HN0 hneq
        obtain ⟨wq, rfl⟩ : ∃ wq, wq = wr := ⟨_, rfl⟩
        obtain ⟨m, hm⟩ : ∃ m, m = (s.data.toList.filter impl_bare.keep).length := ⟨_, rfl⟩
        have HM := Aside0.mk hm
        have HNM := Aside0.mk (show n + m = s.size by rw [hm]; exact HN.out)
        clear hm
        have e5 : (s.size : Int) - (n : Int) = (m : Int) := by have := HNM.out; omega
        rw [e5]
        clear e5
        by_cases hz : n = 0
        · subst hz
          go_wp2_with fail
          go_ret
          exact ⟨by rw [impl_bare.same_ s HN.out]; rfl, HBq.out⟩
        · have hd : decide (0 < n) = true := decide_eq_true (by omega)
          rw [hd]
          clear hd
          have hms : m ≤ 1000000 := by have := HNM.out; omega
          obtain ⟨iB, hi, hz1, hs1, hb1⟩ := impl_bare.infoB
          have IB := Aside0.mk hi
          have ZB := Aside0.mk hz1
          have SB := Aside0.mk hs1
          have BB := Aside0.mk hb1
          clear hi hz1 hs1 hb1
          go_wp2_with (at_make; (refine wpList_make_full _ rfl (.tmp 84) (.tmp 84) 81 rfl 0 5 iB _ 1 Tryz.underlying81 IB.out ZB.out SB.out .i64 .i64 (m : Int) (m : Int) m rfl rfl rfl rfl (by rw [BB.out]; omega) (by unfold maxLen; omega) (Nat.zero_le _) ?_); intro w3 hown hgrow; have HO := Aside0.mk (impl_bare.made_ hown); have HG3 := Aside0.mk (pw_below_grown (Below.refl _ _) none (Nat.le_refl _) hgrow (fun k hk => by cases hk)); clear hown hgrow)
          have hneq : ∀ (w : World) (a : Option Addr) (n c : Nat), (binOp .neq 81 (.slice a n c) (.slice none 0 0)).run Tryz.prog w = .ok (.bool (!a.isNone)) w := fun w a n c => run_neq_slice_nil_any w _ _ a n c 0 0 Tryz.underlying81
          go_loopg [13, 14] s.size (fun gg v13 v14 w' => ∃ (i j : Nat) (cur : List Value), i ≤ s.size ∧ s.size - i ≤ gg ∧ v14 = .int .i64 (i : Int) ∧ v13 = .int .i64 (j : Int) ∧ Aside0 (j = impl_bare.stay s.data.toList i) ∧ Aside0 (w'.heap[wq.heap.size]? = some (.cells cur.toArray 5 (0, 0))) ∧ Aside0 (cur.length = m ∧ ∀ q (hq : q < (s.data.toList.filter impl_bare.keep).length), q < j → cur[q]? = some (.int .u8 (((s.data.toList.filter impl_bare.keep)[q]).toNat : Int))) ∧ Aside0 (Below wq.heap.size wq w'))
          case atStart => exact ⟨0, 0, _, Nat.zero_le _, Nat.le_refl _, rfl, rfl, ⟨by unfold impl_bare.stay; simp⟩, HO, ⟨by simp, fun q _ h => by omega⟩, HG3⟩
          case round =>
            clear HO HG3
            obtain ⟨i, j, cur, hi, hgg, rfl, rfl, HJ, HBK, HCU, HBL⟩ := hrel
            have HRw := Aside0.mk (impl_bare.ready_below HRq.out HBL.out)
            by_cases hlt : i < s.size
            · have hltz : (i : Int) < (s.size : Int) := by omega
              have i0 : (0 : Int) ≤ (i : Int) := by omega
              have j0 : (0 : Int) ≤ (j : Int) := by omega
              obtain ⟨y, hsy, hly⟩ : ∃ y, s[i] = y ∧ s.data.toList[i]'(by omega) = y := ⟨s[i], rfl, rfl⟩
              have HLY := Aside0.mk hly
              have hy256 : (y.toNat : Int) < 256 := by have := y.toNat_lt; omega
              have hjm : j ≤ m := by have := impl_bare.stay_le s.data.toList i; rw [HJ.out, HM.out]; exact this
              have hjz : (j : Int) ≤ (m : Int) := by omega
              cases hk : impl_bare.keep y with
              | true =>
                have hsk := impl_bare.stay_keep s.data.toList i (by omega) (by rw [hly]; exact hk)
                have hjlt : j < m := by rw [HJ.out, HM.out]; exact hsk.2.1
                have hjltz : (j : Int) < (m : Int) := by omega
                have HSK := Aside0.mk hsk
                have ct := impl_bare.at_keep HRw.out y hk
                have cb := cell_of_row _ _ j _ _ (0, 0) HBK.out
                obtain ⟨vj, hvj⟩ : ∃ v, cur[j]? = some v := ⟨_, List.getElem?_eq_getElem (by have := HCU.out.1; omega)⟩
                rw [List.getElem?_toArray, hvj] at cb
                have fb := frozen_of_row _ _ j _ _ HBK.out
                have HNX := Aside0.mk (heap_setCell_same _ _ j _ _ (Value.int .u8 (y.toNat : Int)) HBK.out)
                clear hly hk hsk hvj
                go_wp2_with fail
                go_roundg (s.size - (i + 1))
                case measure => omega
                case rel =>
                  refine ⟨i + 1, j + 1, cur.set j (.int .u8 (y.toNat : Int)), by omega, by omega, by go_num, by go_num, ⟨by rw [HSK.out.1, ← HJ.out]⟩, ⟨by rw [HNX.out, List.setIfInBounds_toArray]⟩, ⟨by rw [List.length_set]; exact HCU.out.1, fun q hq hqj => ?_⟩, ⟨HBL.out.setCell (p := ⟨wq.heap.size, j, none⟩) (Nat.le_refl _) _⟩⟩
                  rw [List.getElem?_set]
                  by_cases e : j = q
                  · subst e
                    rw [if_pos rfl, if_pos (by have := HCU.out.1; omega)]
                    have h2 := HSK.out.2.2
                    have h3 := HJ.out
                    subst h3
                    rw [h2, HLY.out]
                  · rw [if_neg e]; exact HCU.out.2 q hq (by omega)
              | false =>
                have hsd := impl_bare.stay_drop s.data.toList i (by omega) (by rw [hly]; exact hk)
                have HSD := Aside0.mk hsd
                obtain ⟨ad, cd, ct⟩ := impl_bare.at_drop HRw.out y hk
                clear hly hk hsd
                by_cases hmj : m = j
                · have hmn : (m = j) = True := eq_true hmj
                  clear hmj
                  have hwj : IntKind.i64.wrap (j : Int) = (j : Int) := by rw [IntKind.wrap_i64]; omega
                  go_wp2_with fail
                  go_region_law (refine step_copy_splice rfl (.tmp 105) (.tmp 111) 81 81 rfl 5 Tryz.underlying81 (by kernel_rfl) (some ⟨wq.heap.size, 0, none⟩) (some ad) (m - j) (m - j) 0 cd (by go_simp) (by go_simp) wq.heap.size 0 cur 5 HBK.out [] (by simp) (fun h => absurd h (by simp)) (by simp) (fun v hv => by simp at hv) wq.heap.size wq (below_drew HBL.out) (Nat.le_refl _) ?_; intro w5 HG5 hb5; have HB5 := Aside0.mk hb5; have HG6 := Aside0.mk (impl_bare.splice0 HG5.out); clear hb5 HG5)
                  go_wp2_with fail
                  go_roundg (s.size - (i + 1))
                  case measure => omega
                  case rel => exact ⟨i + 1, j, cur, by omega, by omega, by go_num, rfl, ⟨by rw [HSD.out]; exact HJ.out⟩, HG6, HCU, HB5⟩
                · have hmn : (m = j) = False := eq_false hmj
                  clear hmj
                  have hwj : IntKind.i64.wrap (j : Int) = (j : Int) := by rw [IntKind.wrap_i64]; omega
                  go_wp2_with fail
                  go_region_law (refine step_copy_splice rfl (.tmp 105) (.tmp 111) 81 81 rfl 5 Tryz.underlying81 (by kernel_rfl) (some ⟨wq.heap.size, j, none⟩) (some ad) (m - j) (m - j) 0 cd (by go_simp) (by go_simp) wq.heap.size 0 cur 5 HBK.out [] (by simp) (fun h => absurd h (by simp)) (by simp) (fun v hv => by simp at hv) wq.heap.size wq (below_drew HBL.out) (Nat.le_refl _) ?_; intro w5 HG5 hb5; have HB5 := Aside0.mk hb5; have HG6 := Aside0.mk (impl_bare.splice0 HG5.out); clear hb5 HG5)
                  go_wp2_with fail
                  go_roundg (s.size - (i + 1))
                  case measure => omega
                  case rel => exact ⟨i + 1, j, cur, by omega, by omega, by go_num, rfl, ⟨by rw [HSD.out]; exact HJ.out⟩, HG6, HCU, HB5⟩
            · have hin : i = s.size := by omega
              subst hin
              have hltz : ¬ ((s.size : Int) < (s.size : Int)) := by omega
              have hjm : j = m := by rw [HJ.out, HM.out, ← hl]; exact impl_bare.stay_all s.data.toList
              subst hjm
              have hk := run_convert_bytes_back (P := Tryz.prog) wr 81 9 5 ⟨wq.heap.size, 0, none⟩ j (s.data.toList.filter impl_bare.keep) Tryz.underlying81 Tryz.underlying5 Tryz.underlying9 (fun q hq => by
                have ea : (⟨wq.heap.size, 0, none⟩ : Addr).add q = ⟨wq.heap.size, q, none⟩ := by
                  unfold Addr.add
                  by_cases h0 : q = 0 <;> simp [h0]
                rw [ea, cell_of_row _ _ q _ _ (0, 0) HBK.out, List.getElem?_toArray]
                exact HCU.out.2 q hq (by rw [HM.out]; exact hq))
              rw [← HM.out] at hk
              have HKK := hk
              clear hk
              go_wp2_with fail
              go_ret
              exact ⟨rfl, HBq.out.trans ⟨HBL.out.os, HBL.out.tape, HBL.out.output, HBL.out.size, fun k hk => HBL.out.block k (Nat.lt_of_lt_of_le hk HBq.out.size)⟩⟩
set_option maxRecDepth 100000 in
set_option maxHeartbeats 8000000 in
/-- the replacer that has just been made, at its first text -/
theorem impl_bare.whole (b g cap : Nat) (s : ByteArray) (hs : s.size ≤ 1000000) (B : Nat) (w W : World) (hB : Below B w W) (hb : B ≤ b) (hblk : W.heap[b]? = some (.cells #[.int .u32 0, .int .i32 0, .int .u32 0, .nilIface, .slice (some ⟨g, 0, none⟩) 4 cap] 79 (0, 0))) (hgb : g ≠ b)
    (h0 : W.cell? ⟨g, 0, none⟩ = some (.string ⟨#[32]⟩)) (h1 : W.cell? ⟨g, 1, none⟩ = some (.string ⟨#[]⟩)) (h2 : W.cell? ⟨g, 2, none⟩ = some (.string ⟨#[47]⟩)) (h3 : W.cell? ⟨g, 3, none⟩ = some (.string ⟨#[]⟩)) (hcount : ∀ (c : UInt8) (w : World), Calls Tryz.prog 153 #[.string s, .string ⟨#[c]⟩] w fun e w' => e = .returned (.int .i64 (s.data.toList.count c : Nat)) ∧ ∃ nd, w' = w.drewN nd) :
    Calls Tryz.prog 52 #[.pointer (some ⟨b, 0, none⟩), .string s] W fun e w' => e = .returned (.string (impl_bare.opp s)) ∧ Below B w w' := by
  have cell : ∀ j v, (#[Value.int .u32 0, .int .i32 0, .int .u32 0, .nilIface, .slice (some ⟨g, 0, none⟩) 4 cap] : Array Value)[j]? = some v → W.cell? ⟨b, j, none⟩ = some v := fun j v hv => by
    rw [cell_of_row W b j _ _ (0, 0) hblk]; exact hv
  have c0 := cell 0 _ rfl
  have c1 := cell 1 _ rfl
  have c3 := cell 3 _ rfl
  have c4 := cell 4 _ rfl
  have fz : ∀ j, W.frozen? ⟨b, j, none⟩ = false := fun j => frozen_of_row W b j _ _ hblk
  have hbl : b < W.heap.size := World.block_lt_of_cell? W _ c0
  have hset : ∀ (x : Addr) (v : Value), x.block = b → x ≠ ⟨b, 1, none⟩ → True := fun _ _ _ _ => trivial
  have n1 : ∀ j : Nat, j ≠ 1 → (⟨b, 1, none⟩ : Addr) ≠ ⟨b, j, none⟩ := fun j hj e => hj (congrArg Addr.off e).symm
  have ng : ∀ j : Nat, (⟨b, 1, none⟩ : Addr) ≠ ⟨g, j, none⟩ := fun j e => hgb (congrArg Addr.block e).symm
  have hbo := impl_bare.buildOnce b g cap (.int .u32 0) (.int .i32 1) .nilIface (W.setCell ⟨b, 1, none⟩ (.int .i32 1))
    ((World.cell?_setCell_other _ _ _ _ (n1 0 (by omega))).trans c0) (World.cell?_setCell_same _ _ _ c1) ((World.cell?_setCell_other _ _ _ _ (n1 3 (by omega))).trans c3) ((World.cell?_setCell_other _ _ _ _ (n1 4 (by omega))).trans c4) (fun j => by rw [World.frozen?_setCell]; exact fz j)
    ((World.cell?_setCell_other _ _ _ _ (ng 0)).trans h0) ((World.cell?_setCell_other _ _ _ _ (ng 1)).trans h1) ((World.cell?_setCell_other _ _ _ _ (ng 2)).trans h2) ((World.cell?_setCell_other _ _ _ _ (ng 3)).trans h3)
  have HO := Aside0.mk (impl_bare.once b W c0 c1 (fz 0) (fz 1) _ hbo)
  have hmf : ∀ (fn : Fn) (first cap : Array Value) (w : World), (Instr.makeFunc fn first cap).run Tryz.prog w = .ok (.func fn first cap) w := fun _ _ _ _ => rfl
  have hm : ∀ (t : Nat) (w : World), (method 310 127 (.pointer (some ⟨t, 0, none⟩)) "Replace").run Tryz.prog w = .ok (151, .pointer (some ⟨t, 0, none⟩)) w := fun _ _ => by kernel_rfl
  have HCN := Aside0.mk hcount
  clear hbo cell hset c0 c1 c3 c4 h0 h1 h2 h3 hcount
  go_enter Tryz.func52, Tryz.ntmps52
  go_upto_region 2 with (go_at_call 61; refine HO.out.mono ?_; rintro e w3 ⟨rfl, w1, hp, rfl⟩; have HP := Aside0.mk hp; clear hp)
  obtain ⟨t, w2, hready, hb2, rfl⟩ := HP.out
  have hsz : (W.setCell ⟨b, 1, none⟩ (Value.int .i32 1)).heap.size = W.heap.size := by simp
  rw [hsz] at hready hb2
  have htb : t ≠ b := by have := hready.lo; omega
  have d3 : w2.cell? ⟨b, 3, none⟩ = some .nilIface := (hb2.cell (p := ⟨b, 3, none⟩) hbl).trans ((World.cell?_setCell_other _ _ _ _ (n1 3 (by omega))).trans (by rw [cell_of_row W b 3 _ _ (0, 0) hblk]; rfl))
  have nn : ∀ i j : Nat, i ≠ j → (⟨b, i, none⟩ : Addr) ≠ ⟨b, j, none⟩ := fun i j h e => h (congrArg Addr.off e)
  have nt : ∀ i j : Nat, (⟨b, i, none⟩ : Addr) ≠ ⟨t, j, none⟩ := fun i j e => htb (congrArg Addr.block e).symm
  have e3 : (((((w2.setCell ⟨b, 3, none⟩ (.iface 127 (.pointer (some ⟨t, 0, none⟩)))).setCell ⟨b, 4, none⟩ (.slice none 0 0)).setCell ⟨b, 0, none⟩ (.int .u32 1)).setCell ⟨b, 1, none⟩ (.int .i32 0)).drew).cell? ⟨b, 3, none⟩ = some (.iface 127 (.pointer (some ⟨t, 0, none⟩))) := by
    rw [World.cell?_drew, World.cell?_setCell_other _ _ _ _ (nn 1 3 (by omega)), World.cell?_setCell_other _ _ _ _ (nn 0 3 (by omega)), World.cell?_setCell_other _ _ _ _ (nn 4 3 (by omega))]
    exact World.cell?_setCell_same _ _ _ d3
  have ej : ∀ (x : Addr), x.block ≠ b → ∀ i : Nat, (⟨b, i, none⟩ : Addr) ≠ x := fun x h i e => h (congrArg Addr.block e).symm
  have et : ∀ x : Addr, x.block ≠ b → (((((w2.setCell ⟨b, 3, none⟩ (.iface 127 (.pointer (some ⟨t, 0, none⟩)))).setCell ⟨b, 4, none⟩ (.slice none 0 0)).setCell ⟨b, 0, none⟩ (.int .u32 1)).setCell ⟨b, 1, none⟩ (.int .i32 0)).drew).cell? x = w2.cell? x := fun x h => by
    rw [World.cell?_drew, World.cell?_setCell_other _ _ _ _ (ej x h 1), World.cell?_setCell_other _ _ _ _ (ej x h 0), World.cell?_setCell_other _ _ _ _ (ej x h 4), World.cell?_setCell_other _ _ _ _ (ej x h 3)]
  have hw2 : Below B w w2 := (hB.setCell (p := ⟨b, 1, none⟩) hb (.int .i32 1)).trans ⟨hb2.os, hb2.tape, hb2.output, hb2.size, fun k hk => hb2.block k (by have := hbl; omega)⟩
  have hX : Below B w (((((w2.setCell ⟨b, 3, none⟩ (.iface 127 (.pointer (some ⟨t, 0, none⟩)))).setCell ⟨b, 4, none⟩ (.slice none 0 0)).setCell ⟨b, 0, none⟩ (.int .u32 1)).setCell ⟨b, 1, none⟩ (.int .i32 0)).drew) :=
    below_drew ((((hw2.setCell (p := ⟨b, 3, none⟩) hb _).setCell (p := ⟨b, 4, none⟩) hb _).setCell (p := ⟨b, 0, none⟩) hb _).setCell (p := ⟨b, 1, none⟩) hb _)
  have hBX : B ≤ (((((w2.setCell ⟨b, 3, none⟩ (.iface 127 (.pointer (some ⟨t, 0, none⟩)))).setCell ⟨b, 4, none⟩ (.slice none 0 0)).setCell ⟨b, 0, none⟩ (.int .u32 1)).setCell ⟨b, 1, none⟩ (.int .i32 0)).drew).heap.size := by
    simp
    have := hb2.size
    rw [hsz] at this
    omega
  have HT := Aside0.mk (impl_bare.ready_on hready et hbl)
  have HX := Aside0.mk hX
  have HBX := Aside0.mk hBX
  clear HP HO et ej hready hX hBX hw2 d3 nn nt hblk hb2 fz n1 ng
  generalize (((((w2.setCell ⟨b, 3, none⟩ (.iface 127 (.pointer (some ⟨t, 0, none⟩)))).setCell ⟨b, 4, none⟩ (.slice none 0 0)).setCell ⟨b, 0, none⟩ (.int .u32 1)).setCell ⟨b, 1, none⟩ (.int .i32 0)).drew) = X at *
  go_wp2_with (go_at_call 151; refine (impl_bare.replace _ t s hs _ HT.out HCN.out).mono ?_; rintro e w9 ⟨rfl, hb9⟩; have HB9 := Aside0.mk hb9; clear hb9)
  go_ret
  exact ⟨rfl, HX.out.trans ⟨HB9.out.os, HB9.out.tape, HB9.out.output, HB9.out.size, fun k hk => HB9.out.block k (Nat.lt_of_lt_of_le hk HBX.out)⟩⟩
theorem impl_bare.count_ (s : ByteArray) (c : UInt8) (w : World) : Calls Tryz.prog 153 #[.string s, .string ⟨#[c]⟩] w fun e w' => e = .returned (.int .i64 (s.data.toList.count c : Nat)) ∧ ∃ nd, w' = w.drewN nd := by
  refine (strings_Count.calls s ⟨#[c]⟩ (s.data.toList.count c : Nat) w rfl).mono ?_
  rintro e w' ⟨rfl, h⟩
  exact ⟨rfl, h.out⟩
theorem impl_bare.le_ {w : World} {o : Obj} {b : Nat} (h : (w.alloc o).heap.size ≤ b) : w.heap.size ≤ b := by simp at h; omega
theorem impl_bare.ne_ {w : World} {b g cap : Nat} {s : ByteArray} (h : w.heap[b]? = some (.cells #[.int .u32 0, .int .i32 0, .int .u32 0, .nilIface, .slice (some ⟨g, 0, none⟩) 4 cap] 79 (0, 0))) (h2 : w.cell? ⟨g, 0, none⟩ = some (.string s)) : g ≠ b := by
  rintro rfl
  rw [cell_of_row w g 0 _ _ (0, 0) h] at h2
  cases h2
def impl_bare.f (a0 : ByteArray) : Option ByteArray := if a0.size ≤ 1000000 then some (impl_bare.opp a0) else none
set_option maxRecDepth 100000 in
set_option maxHeartbeats 4000000 in
theorem impl_bare.calls (a0 : ByteArray) (r : ByteArray) (w : World) (h : impl_bare.f a0 = some r) :
    Calls Tryz.prog 36 #[.string a0] w fun e w' => e = .returned (.string r) ∧ Below w.heap.size w w' := by
  unfold impl_bare.f at h
  by_cases hs : a0.size ≤ 1000000
  · rw [if_pos hs] at h
    obtain rfl := Option.some.inj h
    clear h
    go_enter Tryz.func36, Tryz.ntmps36
    go_wp2_with (first | (go_at_call 51; refine (impl_bare.newRep w.heap.size ⟨#[32]⟩ ⟨#[]⟩ ⟨#[47]⟩ ⟨#[]⟩ _ (by simp) (by simp) (by simp) (by simp)).mono ?_; rintro e w1 ⟨b, g, cap, rfl, hb1, g0, g1, g2, g3, hl1, hl2, hb2⟩; have K1 := Aside0.mk hb1; have K2 := Aside0.mk (And.intro g0 (And.intro g1 (And.intro g2 g3))); have K3 := Aside0.mk (And.intro hl1 (And.intro hl2 hb2)); clear hb1 g0 g1 g2 g3 hl1 hl2 hb2) | (go_at_call 52; refine (impl_bare.whole b g cap a0 hs w.heap.size w _ (below_step (below_alloc (Below.refl _ _) _) K3.out.2.2) (impl_bare.le_ K3.out.1) K1.out (impl_bare.ne_ K1.out K2.out.1) K2.out.1 K2.out.2.1 K2.out.2.2.1 K2.out.2.2.2 (impl_bare.count_ a0)).mono ?_; rintro e w2 ⟨rfl, hb3⟩; have K4 := Aside0.mk hb3; clear hb3))
    go_ret
    exact ⟨rfl, K4.out⟩
  · rw [if_neg hs] at h; cases h

end Go.Proofs.YtpdojionnmehbaaGreatDoor.HFnExactBareOf
