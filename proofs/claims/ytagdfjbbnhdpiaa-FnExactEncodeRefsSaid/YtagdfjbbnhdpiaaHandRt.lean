/- The program's text of counts: four numbers gathered by a loop over slices.Backward, then sealed; for lists of 24 numbers (elsewhere the function here tells nothing). -/
import Derived.Test.YtagdfjbbnhdpiaaQ1
import Derived.Test.YtagdfjbbnhdpiaaHandWf
import Derived.BigQuiet
import Derived.BigRegionIn
import Derived.OrdersIn
namespace Go.Proofs.Ytagdfjbbnhdpiaa.Hand
open Go.RowKit Go.Shelf Go.Proofs.YtagdfjbbnhdpiaaW.PrintWords Go.Proofs.YtagdfjbbnhdpiaaW.PrintLast Go.Proofs.YtagdfjbbnhdpiaaW.PrintMore Go.Proofs.Ytagdfjbbnhdpiaa.Q
set_option linter.unusedVariables false
set_option linter.unusedSimpArgs false
attribute [local go_sem] Oper.semAt_some
/-- One round: the number that a count falls to. -/
def step4 (zs : List Int) (s : List Int) (j : Fin zs.length) : List Int := s.set ((j : Nat) / 6) (wrap64 (wrap64 (16 * s.getD ((j : Nat) / 6) 0) + zs[j]))
def gath (zs : List Int) (pre : List (Fin zs.length)) : List Int := pre.foldl (step4 zs) [0, 0, 0, 0]
theorem gath_len (zs : List Int) (pre : List (Fin zs.length)) : (gath zs pre).length = 4 := by
  have h : ∀ (l : List (Fin zs.length)) (s : List Int), s.length = 4 → (l.foldl (step4 zs) s).length = 4 := by
    intro l
    induction l with
    | nil => intro s hs; exact hs
    | cons p l ih => intro s hs; exact ih _ (by simp [step4, hs])
  exact h pre _ rfl
theorem gath_snoc (zs : List Int) (pre : List (Fin zs.length)) (p : Fin zs.length) : gath zs (pre ++ [p]) = step4 zs (gath zs pre) p := by simp [gath]
def impl_refsText.f (k : Nat) (l0 : List Int) : Option ByteArray := if l0.length = 24 then impl_seal.f k 2 (gath l0 (back l0 l0.length)) else none
theorem impl_refsText.mono : ∀ a0 k, LeO (impl_refsText.f k a0) (impl_refsText.f (k + 1) a0) := by
  intro a0 k
  unfold impl_refsText.f
  refine LeO.ite (impl_seal.mono _ _ _) (LeO.none _)
section
variable {F : Fence} {n : Nat} {P : Program} {ops : Array Oper} {Q : Exit → Act → World → Prop} {l : Nat}
/-- In a round an operation that is no defer statement is carried out as outside of one. -/
theorem wpOpsIn_round (hro : F.round = none) (hd : ∀ (i : Nat) (o : Oper), ops[i]? = some o → ∀ c, o.op ≠ .defer c) : ∀ (t : List Nat) (a : Act) (w : World), wpOpsIn F n P ops Q t a w → wpOpsIn (F.inRound l) n P ops Q t a w := by
  intro t
  induction t with
  | nil => intro a w h; exact h
  | cons i t ih =>
    intro a w h
    rw [wpOpsIn_cons] at h ⊢
    unfold wpOpIn at h ⊢
    cases ho : ops[i]? with
    | none => rw [ho] at h; exact ih _ _ h
    | some o =>
      rw [ho] at h
      simp only [] at h ⊢
      by_cases hw : Region.wanted o (yielded ops a.tmps) = true
      · rw [if_pos hw] at h ⊢
        have h' : o.wpIn (F.inRound l) n P a w (wpOpsIn F n P ops Q t) Q := by
          unfold Oper.wpIn at h ⊢
          refine ⟨h.1, ?_⟩
          have h2 := h.2
          rw [hro] at h2
          rw [Fence.inRound_round, Oper.semAt_some l _ _ (hd i o ho)]
          exact h2
        exact Oper.wpIn_mono (fun a w h => ih a w h) h'
      · rw [if_neg hw] at h ⊢
        exact ⟨h.1, ih _ _ h.2⟩
theorem region_round {id : Nat} {a : Act} {w : World} (hm : P.follows .mixedOrders = true) (hro : F.round = none) (hd : ∀ o ∈ ops.toList, ∀ c, o.op ≠ .defer c)
    (h : wpAnyIn F n P .any ops Q ops.size (Array.replicate ops.size false) a w.drew) : (Code.region id ops true).wpIn (F.inRound l) n P Q a w :=
  wpIn_region_draw fun t => wpOpsIn_round hro (fun i o ho => hd o (Array.mem_toList_iff.2 (Array.mem_of_getElem? ho))) _ _ _ (by
    simp only [Region.schedule, hm, Bool.true_or, if_true]
    exact wpAnyIn_sound ops.size t _ a _ h)
end
theorem make4 (w : World) : (Instr.makeSlice 22 (.int .i64 4) (.int .i64 4)).run Try.prog w = .ok (.slice (some ⟨w.heap.size, 0, none⟩) 4 4) (w.alloc (.cells #[.int .i64 0, .int .i64 0, .int .i64 0, .int .i64 0] 3)) := by kernel_rfl
set_option maxRecDepth 100000 in
set_option maxHeartbeats 8000000 in
theorem refsText_in (k : Nat) (A0 : Option Addr) (c0 : Nat) (l0 : List Int) (r : ByteArray) (w : World) (hr0 : Kd.C (Kd.int .i64) w A0 l0.length l0) (h : impl_refsText.f k l0 = some r) :
    CallsIn Fence.wide 3 Try.prog 77 #[.slice A0 l0.length c0] w fun e W' => e = .returned (.string r) ∧ Below w.heap.size w W' := by
  have hmk := make4
  have HR0 := Aside0.mk hr0
  have HH := Aside0.mk h
  clear hr0 h
  refine callsIn_of_wp_marks Try.func77 rfl trivial ?_ rfl
  simp only [Try.ntmps77, List.size_toArray, List.length_cons, List.length_nil, Nat.reduceAdd, Nat.reduceSub, Array.replicate_succ, Array.replicate_zero, List.push_toArray, List.append_toArray, List.nil_append, List.cons_append]
  gi_wp2_with (refine ⟨trivial, ?_⟩; gi_at_call 88; refine (back_in Fence.wide 2 trivial rfl _ _ _ _).mono ?_; rintro e w' ⟨rfl, rfl⟩)
  obtain ⟨W0, hW0⟩ : ∃ W0, (((w.alloc (.cells #[.int .i64 0, .int .i64 0, .int .i64 0, .int .i64 0] 3)).alloc (.cells #[.slice (some ⟨w.heap.size, 0, none⟩) 4 4] 22)).alloc (.cells #[.slice A0 l0.length c0] 22)) = W0 := ⟨_, rfl⟩
  have hsz : W0.heap.size = w.heap.size + 3 := by rw [← hW0]; simp
  have hB0 : Below w.heap.size w W0 := by
    rw [← hW0]; exact ((((Below.refl _ w).alloc (Nat.le_refl _) _).alloc (by simp) _).alloc (by simp; omega) _)
  have bL : W0.heap[w.heap.size]? = some (.cells (((gath l0 []).map (Value.int .i64)).toArray) 3 (0, 0)) := by
    rw [← hW0, Below.heap_alloc _ _ _ (by simp; omega), Below.heap_alloc _ _ _ (by simp), World.alloc_heap_new]; rfl
  have bX : Boxed W0 (w.heap.size + 1) 22 (.slice (some ⟨w.heap.size, 0, none⟩) 4 4) := by
    rw [← hW0]
    have := (Boxed.new (w.alloc (.cells #[.int .i64 0, .int .i64 0, .int .i64 0, .int .i64 0] 3)) 22 (.slice (some ⟨w.heap.size, 0, none⟩) 4 4)).alloc (.cells #[.slice A0 l0.length c0] 22)
    simpa using this
  have cB : W0.cell? ⟨w.heap.size + 1 + 1, 0, none⟩ = some (.slice A0 l0.length c0) := by rw [← hW0]; simp [go_sem]
  rw [hW0]
  clear hW0
  have hf := HH.out
  unfold impl_refsText.f at hf
  have h24 : l0.length = 24 := by
    by_cases h24 : l0.length = 24
    · exact h24
    · rw [if_neg h24] at hf; cases hf
  rw [if_pos h24] at hf
  have H24 := Aside0.mk h24
  have HF := Aside0.mk hf
  clear h24 hf
  refine wpIn_rangeFunc_ownG (F := Fence.wide) (n := 3) rfl (by omega) (gf := 91) (lb := #[.pointer (some ⟨w.heap.size + 1 + 1, 0, none⟩)]) rfl trivial (enters_of Try.func91 (by kernel_rfl) rfl)
    (back_stops Fence.wide (3 - 1) trivial rfl (by omega) (w.heap.size + 1 + 1) w A0 c0 l0 HR0.out W0 hB0 (by omega) cB) kb_t (kb_b (by omega)) (Below.refl _ _) (fun _ => rfl)
    (fun pre W => (W.heap[w.heap.size]? = some (.cells (((gath l0 pre).map (Value.int .i64)).toArray) 3 (0, 0)) ∧ Boxed W (w.heap.size + 1) 22 (.slice (some ⟨w.heap.size, 0, none⟩) 4 4)) ∧ Below w.heap.size w W)
    (fun _ _ _ => False)
    (OwnFrom.and (OwnFrom.and (Own.from (I := fun (pre : List (Fin l0.length)) (W : World) => W.heap[w.heap.size]? = some (.cells (((gath l0 pre).map (Value.int .i64)).toArray) 3 (0, 0))) (fun s X Y row hs hg hrow => (grownBy_keeps_cells hg hrow hs rfl).trans hs) _) (Own.from (boxed_own _ _ _) _)) (ownFrom_below (Nat.le_refl _) (by omega)))
    (fun _ _ _ _ _ hs _ _ => hs)
    ⟨⟨bL, bX⟩, hB0⟩
    (fun x => { tmps := #[.slice A0 l0.length c0, undef, .string ⟨#[]⟩, .pointer (some ⟨w.heap.size + 1, 0, none⟩), .int .i64 ((x : Nat) : Int), .int .i64 l0[x], .slice (some ⟨w.heap.size, 0, none⟩) 4 4, .slice A0 l0.length c0, .func (.func 91) #[] #[.pointer (some ⟨w.heap.size + 1 + 1, 0, none⟩)], .int .i64 ((x : Nat) : Int), .int .i64 l0[x], undef, undef, undef, undef, undef, undef, undef, undef, undef, undef, undef, undef, undef, undef], defers := [] }) ?assign ?body ?done ?stop
  case assign =>
    intro l x W K hK
    gi_wp2
    exact hK
  case body =>
    rintro l pre x W ⟨⟨hL, hX⟩, hB⟩ hlt
    clear hsz
    have cX := hX.cell
    have hx := x.isLt
    have h24 := H24.out
    have hs := gath_len l0 pre
    obtain ⟨q, hq⟩ : ∃ q : Nat, (x : Nat) / 6 = q := ⟨_, rfl⟩
    have hq1 : q < 4 := by omega
    have hw : IntKind.i64.wrap (((x : Nat) : Int) / 6) = (q : Int) := by rw [IntKind.wrap_i64]; omega
    have hc : W.cell? ⟨w.heap.size, q, none⟩ = some (.int .i64 ((gath l0 pre).getD q 0)) := by
      have hq' : q < (gath l0 pre).length := by omega
      simp [World.cell?, show W.heap[w.heap.size]? = _ from hL, List.getD_eq_getElem?_getD, List.getElem?_eq_getElem hq']
    have hz : W.frozen? ⟨w.heap.size, q, none⟩ = false := by
      simp [World.frozen?, show W.heap[w.heap.size]? = _ from hL]
    have q1 : ((q : Int) < 4) = True := eq_true (by omega)
    clear h24 hx
    have kk : KeepsFrom W0.heap.size W (W.drew.setCell ⟨w.heap.size, q, none⟩ (.int .i64 (wrap64 (wrap64 (16 * (gath l0 pre).getD q 0) + l0[x])))) := ((KeepsOthers.drew W).trans (KeepsOthers.setCell _ _ _)).from _
    have kb : KB w.heap.size (w.heap.size + 1 + 1) W (W.drew.setCell ⟨w.heap.size, q, none⟩ (.int .i64 (wrap64 (wrap64 (16 * (gath l0 pre).getD q 0) + l0[x])))) := by
      refine ⟨((Below.refl _ W).drew).setCell (p := ⟨w.heap.size, q, none⟩) (Nat.le_refl _) _, fun v hv => ?_⟩
      exact (World.cell?_of_block (w := W.drew) (Below.heap_setCell W.drew _ _ _ (by show w.heap.size + 1 + 1 ≠ w.heap.size; omega))).trans hv
    have hI : (((W.drew.setCell ⟨w.heap.size, q, none⟩ (.int .i64 (wrap64 (wrap64 (16 * (gath l0 pre).getD q 0) + l0[x])))).heap[w.heap.size]? = some (.cells (((gath l0 (pre ++ [x])).map (Value.int .i64)).toArray) 3 (0, 0)) ∧ Boxed (W.drew.setCell ⟨w.heap.size, q, none⟩ (.int .i64 (wrap64 (wrap64 (16 * (gath l0 pre).getD q 0) + l0[x])))) (w.heap.size + 1) 22 (.slice (some ⟨w.heap.size, 0, none⟩) 4 4)) ∧ Below w.heap.size w (W.drew.setCell ⟨w.heap.size, q, none⟩ (.int .i64 (wrap64 (wrap64 (16 * (gath l0 pre).getD q 0) + l0[x]))))) := by
      refine ⟨⟨?_, ?_⟩, hB.drew.setCell (p := ⟨w.heap.size, q, none⟩) (Nat.le_refl _) _⟩
      · rw [gath_snoc]
        unfold step4
        rw [hq]
        have hL' : W.drew.heap[w.heap.size]? = some (.cells (((gath l0 pre).map (Value.int .i64)).toArray) 3 (0, 0)) := hL
        simp [World.setCell, Array.getElem?_modify, hL', List.map_set]
      · have hX' : W.drew.heap[w.heap.size + 1]? = _ := hX
        exact (Below.heap_setCell W.drew _ _ _ (by show w.heap.size + 1 ≠ w.heap.size; omega)).trans hX'
    generalize (gath l0 pre).getD q 0 = g at hc kk kb hI
    generalize hy : l0[x] = y at kk kb hI ⊢
    have HY := Aside0.mk hy
    clear hy
    gi_wp2
    refine region_round rfl rfl (by simp) ?_
    refine wpAnyIn_take (i := 1) (v := .int .i64 ((x : Nat) : Int)) rfl rfl (by kernel_rfl) (by kernel_rfl) (by kernel_rfl) (fun _ _ _ h => h) ⟨Or.inl ⟨by rfl, fun w => by first | (go_simp; done) | (go_simp; exact hw) | (go_simp; rw [IntWalk.i64_left])⟩, fun _ => rfl⟩ ?_
    refine wpAnyIn_take (i := 2) (v := .int .i64 (q : Int)) rfl rfl (by kernel_rfl) (by kernel_rfl) (by kernel_rfl) (fun _ _ _ h => h) ⟨Or.inl ⟨by rfl, fun w => by first | (go_simp; done) | (go_simp; exact hw) | (go_simp; rw [IntWalk.i64_left])⟩, fun _ => rfl⟩ ?_
    refine wpAnyIn_take (i := 4) (v := .int .i64 ((x : Nat) : Int)) rfl rfl (by kernel_rfl) (by kernel_rfl) (by kernel_rfl) (fun _ _ _ h => h) ⟨Or.inl ⟨by rfl, fun w => by first | (go_simp; done) | (go_simp; exact hw) | (go_simp; rw [IntWalk.i64_left])⟩, fun _ => rfl⟩ ?_
    refine wpAnyIn_take (i := 5) (v := .int .i64 (q : Int)) rfl rfl (by kernel_rfl) (by kernel_rfl) (by kernel_rfl) (fun _ _ _ h => h) ⟨Or.inl ⟨by rfl, fun w => by first | (go_simp; done) | (go_simp; exact hw) | (go_simp; rw [IntWalk.i64_left])⟩, fun _ => rfl⟩ ?_
    refine wpAnyIn_take (i := 9) (v := .int .i64 y) rfl rfl (by kernel_rfl) (by kernel_rfl) (by kernel_rfl) (fun _ _ _ h => h) ⟨Or.inl ⟨by rfl, fun w => by first | (go_simp; done) | (go_simp; exact hw) | (go_simp; rw [IntWalk.i64_left])⟩, fun _ => rfl⟩ ?_
    refine wpAnyIn_ready (rs := [0, 3]) (by kernel_rfl) (by simp) ?_
    refine AllReadyIn.cons rfl (fun K hK => ?_) ?_
    · go_simp
      refine hK _ _ ?_
      clear hK K
      refine wpAnyIn_ready (rs := [3]) (by kernel_rfl) (by simp) ?_
      refine AllReadyIn.cons rfl (fun K hK => ?_) ?_
      · go_simp
        refine hK _ _ ?_
        clear hK K
        refine wpAnyIn_take (i := 6) (v := .pointer (some ⟨w.heap.size, q, none⟩)) rfl rfl (by kernel_rfl) (by kernel_rfl) (by kernel_rfl) (fun _ _ _ h => h) ⟨Or.inl ⟨by rfl, fun w => by first | (go_simp; done) | (go_simp; exact hw) | (go_simp; rw [IntWalk.i64_left])⟩, fun _ => rfl⟩ ?_
        refine wpAnyIn_ready (rs := [7]) (by kernel_rfl) (by simp) ?_
        refine AllReadyIn.cons rfl (fun K hK => ?_) ?_
        · go_simp
          refine hK _ _ ?_
          clear hK K
          refine wpAnyIn_take (i := 8) (v := .int .i64 (wrap64 (16 * g))) rfl rfl (by kernel_rfl) (by kernel_rfl) (by kernel_rfl) (fun _ _ _ h => h) ⟨Or.inl ⟨by rfl, fun w => by first | (go_simp; done) | (go_simp; exact hw) | (go_simp; rw [IntWalk.i64_left])⟩, fun _ => rfl⟩ ?_
          refine wpAnyIn_take (i := 10) (v := .int .i64 (wrap64 (wrap64 (16 * g) + y))) rfl rfl (by kernel_rfl) (by kernel_rfl) (by kernel_rfl) (fun _ _ _ h => h) ⟨Or.inl ⟨by rfl, fun w => by first | (go_simp; done) | (go_simp; exact hw) | (go_simp; rw [IntWalk.i64_left])⟩, fun _ => rfl⟩ ?_
          refine wpAnyIn_take (i := 11) (v := .pointer (some ⟨w.heap.size, q, none⟩)) rfl rfl (by kernel_rfl) (by kernel_rfl) (by kernel_rfl) (fun _ _ _ h => h) ⟨Or.inl ⟨by rfl, fun w => by first | (go_simp; done) | (go_simp; exact hw) | (go_simp; rw [IntWalk.i64_left])⟩, fun _ => rfl⟩ ?_
          refine wpAnyIn_ready (rs := [12]) (by kernel_rfl) (by simp) ?_
          refine AllReadyIn.cons rfl (fun K hK => ?_) ?_
          · go_simp
            refine hK _ _ ?_
            clear hK K
            refine wpAnyIn_done (by kernel_rfl) ?_ _
            first | exact ⟨kk, kb, hI⟩ | (gi_wp2; exact ⟨kk, kb, hI⟩)
          exact AllReadyIn.nil
        exact AllReadyIn.nil
      exact AllReadyIn.nil
    refine AllReadyIn.cons rfl (fun K hK => ?_) ?_
    · go_simp
      refine hK _ _ ?_
      clear hK K
      refine wpAnyIn_take (i := 6) (v := .pointer (some ⟨w.heap.size, q, none⟩)) rfl rfl (by kernel_rfl) (by kernel_rfl) (by kernel_rfl) (fun _ _ _ h => h) ⟨Or.inl ⟨by rfl, fun w => by first | (go_simp; done) | (go_simp; exact hw) | (go_simp; rw [IntWalk.i64_left])⟩, fun _ => rfl⟩ ?_
      refine wpAnyIn_ready (rs := [0, 7]) (by kernel_rfl) (by simp) ?_
      refine AllReadyIn.cons rfl (fun K hK => ?_) ?_
      · go_simp
        refine hK _ _ ?_
        clear hK K
        refine wpAnyIn_ready (rs := [7]) (by kernel_rfl) (by simp) ?_
        refine AllReadyIn.cons rfl (fun K hK => ?_) ?_
        · go_simp
          refine hK _ _ ?_
          clear hK K
          refine wpAnyIn_take (i := 8) (v := .int .i64 (wrap64 (16 * g))) rfl rfl (by kernel_rfl) (by kernel_rfl) (by kernel_rfl) (fun _ _ _ h => h) ⟨Or.inl ⟨by rfl, fun w => by first | (go_simp; done) | (go_simp; exact hw) | (go_simp; rw [IntWalk.i64_left])⟩, fun _ => rfl⟩ ?_
          refine wpAnyIn_take (i := 10) (v := .int .i64 (wrap64 (wrap64 (16 * g) + y))) rfl rfl (by kernel_rfl) (by kernel_rfl) (by kernel_rfl) (fun _ _ _ h => h) ⟨Or.inl ⟨by rfl, fun w => by first | (go_simp; done) | (go_simp; exact hw) | (go_simp; rw [IntWalk.i64_left])⟩, fun _ => rfl⟩ ?_
          refine wpAnyIn_take (i := 11) (v := .pointer (some ⟨w.heap.size, q, none⟩)) rfl rfl (by kernel_rfl) (by kernel_rfl) (by kernel_rfl) (fun _ _ _ h => h) ⟨Or.inl ⟨by rfl, fun w => by first | (go_simp; done) | (go_simp; exact hw) | (go_simp; rw [IntWalk.i64_left])⟩, fun _ => rfl⟩ ?_
          refine wpAnyIn_ready (rs := [12]) (by kernel_rfl) (by simp) ?_
          refine AllReadyIn.cons rfl (fun K hK => ?_) ?_
          · go_simp
            refine hK _ _ ?_
            clear hK K
            refine wpAnyIn_done (by kernel_rfl) ?_ _
            first | exact ⟨kk, kb, hI⟩ | (gi_wp2; exact ⟨kk, kb, hI⟩)
          exact AllReadyIn.nil
        exact AllReadyIn.nil
      refine AllReadyIn.cons rfl (fun K hK => ?_) ?_
      · go_simp
        refine hK _ _ ?_
        clear hK K
        refine wpAnyIn_take (i := 8) (v := .int .i64 (wrap64 (16 * g))) rfl rfl (by kernel_rfl) (by kernel_rfl) (by kernel_rfl) (fun _ _ _ h => h) ⟨Or.inl ⟨by rfl, fun w => by first | (go_simp; done) | (go_simp; exact hw) | (go_simp; rw [IntWalk.i64_left])⟩, fun _ => rfl⟩ ?_
        refine wpAnyIn_take (i := 10) (v := .int .i64 (wrap64 (wrap64 (16 * g) + y))) rfl rfl (by kernel_rfl) (by kernel_rfl) (by kernel_rfl) (fun _ _ _ h => h) ⟨Or.inl ⟨by rfl, fun w => by first | (go_simp; done) | (go_simp; exact hw) | (go_simp; rw [IntWalk.i64_left])⟩, fun _ => rfl⟩ ?_
        refine wpAnyIn_ready (rs := [0]) (by kernel_rfl) (by simp) ?_
        refine AllReadyIn.cons rfl (fun K hK => ?_) ?_
        · go_simp
          refine hK _ _ ?_
          clear hK K
          refine wpAnyIn_take (i := 11) (v := .pointer (some ⟨w.heap.size, q, none⟩)) rfl rfl (by kernel_rfl) (by kernel_rfl) (by kernel_rfl) (fun _ _ _ h => h) ⟨Or.inl ⟨by rfl, fun w => by first | (go_simp; done) | (go_simp; exact hw) | (go_simp; rw [IntWalk.i64_left])⟩, fun _ => rfl⟩ ?_
          refine wpAnyIn_ready (rs := [12]) (by kernel_rfl) (by simp) ?_
          refine AllReadyIn.cons rfl (fun K hK => ?_) ?_
          · go_simp
            refine hK _ _ ?_
            clear hK K
            refine wpAnyIn_done (by kernel_rfl) ?_ _
            first | exact ⟨kk, kb, hI⟩ | (gi_wp2; exact ⟨kk, kb, hI⟩)
          exact AllReadyIn.nil
        exact AllReadyIn.nil
      exact AllReadyIn.nil
    exact AllReadyIn.nil
  case done =>
    rintro D ys W hD rfl ⟨⟨hL, hX⟩, hB⟩ hK
    have cX := hX.cell
    have hs := gath_len l0 (back l0 l0.length)
    have hC : Kd.C (Kd.int .i64) W (some ⟨w.heap.size, 0, none⟩) (gath l0 (back l0 l0.length)).length (gath l0 (back l0 l0.length)) := by
      refine ⟨rfl, by rw [hs]; decide, fun _ => ⟨⟨w.heap.size, 0, none⟩, rfl, fun j p hj => ⟨[.int .i64 p], rfl, rfl, fun i u hu => ?_⟩⟩⟩
      obtain ⟨hjl, hjv⟩ := List.getElem?_eq_some_iff.1 hj
      have hi : i = 0 := by
        have := (List.getElem?_eq_some_iff.1 hu).1
        simp at this
        exact this
      subst hi
      simp at hu
      subst hu
      subst hjv
      show W.cell? (Addr.add ⟨w.heap.size, 0, none⟩ (j * 1 + 0)) = _
      rw [Addr.add_lit]
      simp [World.cell?, show W.heap[w.heap.size]? = _ from hL, List.getElem?_eq_getElem hjl]
    have hcall := impl_seal.calls k 2 (some ⟨w.heap.size, 0, none⟩) 4 (gath l0 (back l0 l0.length)) r W hC (by omega) HF.out
    rw [hs] at hcall
    have HC := Aside0.mk hcall
    have HL := Aside0.mk hL
    clear hL hC hcall hs
    gi_wp2_with (refine ⟨trivial, ?_⟩; gi_at_call 73; refine (callsIn_wide.2 HC.out).mono ?_; rintro e w' ⟨rfl, hb'⟩)
    have hK' : w'.heap[D]? = some (.deferred (some [])) := (hb'.block D (Array.getElem?_eq_some_iff.1 hK).1).trans hK
    have hBw : Below w.heap.size w w' := hB.trans (hb'.mono (by have := hB.size; omega))
    refine ⟨by simp, .inl ⟨_, _, rfl, run_takeDeferred hK', ?_⟩⟩
    exact ⟨_, results_tmp rfl _ _ _, rfl, hBw.trans (belowK_b (w := w) (Nat.le_refl _) w' D _ _ (by omega) hK' rfl rfl)⟩
  case stop =>
    rintro D c pre W _ _ h _
    exact h.elim
theorem impl_refsText.calls (k : Nat) (A0 : Option Addr) (c0 : Nat) (l0 : List Int) (r : ByteArray) (w : World) (hr0 : Kd.C (Kd.int .i64) w A0 l0.length l0) (hc0 : l0.length ≤ c0) (h : impl_refsText.f k l0 = some r) :
    Calls Try.prog 77 #[.slice A0 l0.length c0] w fun e W' => e = .returned (.string r) ∧ Below w.heap.size w W' :=
  callsIn_wide.1 (refsText_in k A0 c0 l0 r w hr0 h)
end Go.Proofs.Ytagdfjbbnhdpiaa.Hand
