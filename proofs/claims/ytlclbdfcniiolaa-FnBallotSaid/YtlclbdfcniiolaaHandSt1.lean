/- The program's step in its writing phases: what it comes to and what it writes; for every ballot of a host from 0 to 3 and a list of four blocks. -/
import Derived.Test.YtlclbdfcniiolaaHandSta
import Derived.BigQuiet
import Derived.BigRegion
import Derived.RegionCalls
import Derived.Deep.RegionWith
import Derived.Deep.RegionHeld3
import Derived.Deep.DrawnRows
namespace Go.Proofs.Ytlclbdfcniiolaa.Hand
open Go.RowKit Go.Proofs.YtlclbdfcniiolaaW.PrintWords Go.Proofs.YtlclbdfcniiolaaW.PrintLast Go.Proofs.YtlclbdfcniiolaaW.PrintMore Go.Proofs.Ytlclbdfcniiolaa.Q
set_option linter.unusedVariables false
set_option linter.unusedSimpArgs false
attribute [local go_sem ↓] Go.wp_at_zero Go.wp_at_succ
set_option maxRecDepth 100000 in
set_option maxHeartbeats 16000000 in
theorem step_1 (h v bal val nx best bb : Int) (r1 r2 r3 r4 r5 r6 r7 r8 : Int) (lr : List S53) (base g cap : Nat) (ok : Nat → Prop) (l : List S53) (w : World) (hR : Kd.R k53 53 w base ok (.slice (some ⟨g, 0, none⟩) 4 cap) l) (hok : ok g) (hbg : base ≤ g) (hgl : g < w.heap.size) (h0 : 0 ≤ h) (h4 : h < 4)
    (hf : pxWrite h v 1 bal val nx best bb l = (r1, r2, r3, r4, r5, r6, r7, r8, lr)) :
    Calls Try.prog 44 #[.agg #[.int .i64 h, .int .i64 v, .int .i64 1, .int .i64 bal, .int .i64 val, .int .i64 nx, .int .i64 best, .int .i64 bb], .slice (some ⟨g, 0, none⟩) 4 cap] w fun e w' => e = .returned (.agg #[.int .i64 r1, .int .i64 r2, .int .i64 r3, .int .i64 r4, .int .i64 r5, .int .i64 r6, .int .i64 r7, .int .i64 r8]) ∧ Kd.R k53 53 w' base ok (.slice (some ⟨g, 0, none⟩) 4 cap) lr ∧ Kept w w' ok ∧ Below base w w' := by
  have hu53 := Try.underlying53
  have hu26 := Try.underlying26
  have HR := Aside0.mk hR
  have HOK := Aside0.mk hok
  clear hR hok
  unfold pxWrite at hf
  have HF := Aside0.mk hf
  clear hf
  have q0 : (0 ≤ h) = True := eq_true h0
  have q1 : (h < (4 : Int)) = True := eq_true h4
  go_enter Try.func44, Try.ntmps44
  go_wp2
  go_region
  go_upto_region 5 with fail
  have HB4 := three_below w (.cells #[.int .i64 h, .int .i64 v, .int .i64 1, .int .i64 bal, .int .i64 val, .int .i64 nx, .int .i64 best, .int .i64 bb] 26) (.cells #[.int .i64 0, .int .i64 0, .int .i64 0, .int .i64 0, .int .i64 0, .int .i64 0, .int .i64 0, .int .i64 0] 26) (.cells #[.int .i64 h, .int .i64 v, .int .i64 6, .int .i64 bal, .int .i64 val, .int .i64 nx, .int .i64 best, .int .i64 bb] 26)
  have hs4 := three_size w (.cells #[.int .i64 h, .int .i64 v, .int .i64 1, .int .i64 bal, .int .i64 val, .int .i64 nx, .int .i64 best, .int .i64 bb] 26) (.cells #[.int .i64 0, .int .i64 0, .int .i64 0, .int .i64 0, .int .i64 0, .int .i64 0, .int .i64 0, .int .i64 0] 26) (.cells #[.int .i64 h, .int .i64 v, .int .i64 6, .int .i64 bal, .int .i64 val, .int .i64 nx, .int .i64 best, .int .i64 bb] 26)
  have BP := three_first w (.cells #[.int .i64 h, .int .i64 v, .int .i64 1, .int .i64 bal, .int .i64 val, .int .i64 nx, .int .i64 best, .int .i64 bb] 26) (.cells #[.int .i64 0, .int .i64 0, .int .i64 0, .int .i64 0, .int .i64 0, .int .i64 0, .int .i64 0, .int .i64 0] 26) (.cells #[.int .i64 h, .int .i64 v, .int .i64 6, .int .i64 bal, .int .i64 val, .int .i64 nx, .int .i64 best, .int .i64 bb] 26)
  have BR := three_second w (.cells #[.int .i64 h, .int .i64 v, .int .i64 1, .int .i64 bal, .int .i64 val, .int .i64 nx, .int .i64 best, .int .i64 bb] 26) (.cells #[.int .i64 0, .int .i64 0, .int .i64 0, .int .i64 0, .int .i64 0, .int .i64 0, .int .i64 0, .int .i64 0] 26) (.cells #[.int .i64 h, .int .i64 v, .int .i64 6, .int .i64 bal, .int .i64 val, .int .i64 nx, .int .i64 best, .int .i64 bb] 26)
  have BA := three_third w (.cells #[.int .i64 h, .int .i64 v, .int .i64 1, .int .i64 bal, .int .i64 val, .int .i64 nx, .int .i64 best, .int .i64 bb] 26) (.cells #[.int .i64 0, .int .i64 0, .int .i64 0, .int .i64 0, .int .i64 0, .int .i64 0, .int .i64 0, .int .i64 0] 26) (.cells #[.int .i64 h, .int .i64 v, .int .i64 6, .int .i64 bal, .int .i64 val, .int .i64 nx, .int .i64 best, .int .i64 bb] 26)
  generalize (((w.alloc (.cells #[.int .i64 h, .int .i64 v, .int .i64 1, .int .i64 bal, .int .i64 val, .int .i64 nx, .int .i64 best, .int .i64 bb] 26)).alloc (.cells #[.int .i64 0, .int .i64 0, .int .i64 0, .int .i64 0, .int .i64 0, .int .i64 0, .int .i64 0, .int .i64 0] 26)).alloc (.cells #[.int .i64 h, .int .i64 v, .int .i64 6, .int .i64 bal, .int .i64 val, .int .i64 nx, .int .i64 best, .int .i64 bb] 26)).drew = W4 at HB4 hs4 BP BR BA ⊢
  have HS4 := Aside0.mk hs4
  clear hs4
  obtain ⟨⟨x0, x1, x2, x3⟩, _⟩ := own_cells HR.out h h0 h4
  have hf := HF.out
  have hd := pxOf_f (x := rd_T53 l h) (v := v)
  generalize rd_T53 l h = bq at x0 x1 x2 x3 hd hf
  generalize pxOf bq v = dq at hd hf
  obtain ⟨b0, b1, b2, b3⟩ := bq
  obtain ⟨d0, d1, d2, d3⟩ := dq
  dsimp only at x0 x1 x2 x3 hd
  have HOF := Aside0.mk (fun W => impl_Block_of.calls b0 b1 b2 b3 v d0 d1 d2 d3 W hd)
  clear hd HF
  have HF := Aside0.mk hf
  clear hf
  have S0 := Aside0.mk (And.intro (cell_later HB4 x0) (And.intro (cell_later HB4 x1) (And.intro (cell_later HB4 x2) (And.intro (cell_later HB4 x3) (And.intro ((blk_cell BP 1).trans (rfl : _ = some (Value.int .i64 v))) ((blk_cell BP 0).trans (rfl : _ = some (Value.int .i64 h))))))))
  clear x0 x1 x2 x3
  go_cut [8] (fun v9 wx => ∃ gb, v9 = .pointer (some ⟨gb, 0, none⟩) ∧ wx.heap[gb]? = some (.cells #[.int .i64 d0, .int .i64 d1, .int .i64 d2, .int .i64 d3] 53 (0, 0)) ∧ W4.heap.size ≤ gb ∧ Below W4.heap.size W4 wx)
  case first =>
    go_region_held3 (fun w' => w'.cell? ⟨g, h.toNat * 4, none⟩ = some (.int .i64 b0) ∧ w'.cell? ⟨g, h.toNat * 4 + 1, none⟩ = some (.int .i64 b1) ∧ w'.cell? ⟨g, h.toNat * 4 + 2, none⟩ = some (.int .i64 b2) ∧ w'.cell? ⟨g, h.toNat * 4 + 3, none⟩ = some (.int .i64 b3) ∧ w'.cell? ⟨w.heap.size, 1, none⟩ = some (.int .i64 v) ∧ w'.cell? ⟨w.heap.size, 0, none⟩ = some (.int .i64 h))
      (first | exact S0.out | (refine six_step S0.out ?_; (repeat (first | (with_reducible exact Below.refl _ _) | exact HBC.out | (with_reducible apply Below.drew) | (with_reducible apply below_alloc) | (with_reducible refine below_set ?_ (Nat.le_refl _))))))
      (first | (go_at_call 67; refine (HOF.out _).mono ?_; rintro e w' ⟨rfl, hb⟩; (first | (have HBC : Aside0 (Below W4.heap.size W4 w') := ⟨below_first hb⟩) | (have HBC : Aside0 (Below W4.heap.size W4 w') := ⟨below_last hb⟩)); (try (have bz : w'.heap[W4.heap.size]? = _ := blk_below (blk_drew (blk_new W4 _)) hb; have z0 := (blk_cell bz 0).trans (rfl : _ = some (Value.int .i64 0)); have z1 := (blk_cell bz 1).trans (rfl : _ = some (Value.int .i64 0)); have z2 := (blk_cell bz 2).trans (rfl : _ = some (Value.int .i64 0)); have z3 := (blk_cell bz 3).trans (rfl : _ = some (Value.int .i64 0)); have t0 := blk_frozen bz 0; have t1 := blk_frozen bz 1; have t2 := blk_frozen bz 2; have t3 := blk_frozen bz 3; have BZ := Aside0.mk bz; clear bz)); clear hb))
    all_goals (go_wp2_with fail; go_meet)
    · exact ⟨_, rfl, blk_new _ _, HBC.out.size, below_alloc HBC.out _⟩
    · refine ⟨_, rfl, blk_put (cs := #[.int .i64 d0, .int .i64 d1, .int .i64 d2, .int .i64 0]) (blk_put (cs := #[.int .i64 d0, .int .i64 d1, .int .i64 0, .int .i64 0]) (blk_put (cs := #[.int .i64 d0, .int .i64 0, .int .i64 0, .int .i64 0]) (blk_put BZ.out 0 _ rfl) 1 _ rfl) 2 _ rfl) 3 _ rfl, Nat.le_refl _, below_set (below_set (below_set (below_set HBC.out (Nat.le_refl _)) (Nat.le_refl _)) (Nat.le_refl _)) (Nat.le_refl _)⟩
  case rest =>
    obtain ⟨gb, rfl, hgb, hge, hbc⟩ := hcut
    have BPc := blk_below BP hbc
    have BRc := blk_below BR hbc
    have BAc := blk_below BA hbc
    clear BP BR BA S0
    have n0 : gb ≠ w.heap.size := by have := HS4.out; omega
    have n1 : gb ≠ w.heap.size + 1 := by have := HS4.out; omega
    have n2 : gb ≠ w.heap.size + 1 + 1 := by have := HS4.out; omega
    have GE : w.heap.size ≤ gb := by have := HS4.out; omega
    have g0 := (blk_cell hgb 0).trans (rfl : _ = some (Value.int .i64 d0))
    have g1 := (blk_cell hgb 1).trans (rfl : _ = some (Value.int .i64 d1))
    have g2 := (blk_cell hgb 2).trans (rfl : _ = some (Value.int .i64 d2))
    have g3 := (blk_cell hgb 3).trans (rfl : _ = some (Value.int .i64 d3))
    have gf0 := blk_frozen hgb 0
    have gf1 := blk_frozen hgb 1
    have gf2 := blk_frozen hgb 2
    have gf3 := blk_frozen hgb 3
    have p0 := (blk_cell BPc 0).trans (rfl : _ = some (Value.int .i64 h))
    have pf0 := blk_frozen BPc 0
    have r0_ := (blk_cell BRc 0).trans (rfl : _ = some (Value.int .i64 0))
    have rf0 := blk_frozen BRc 0
    have a0 := (blk_cell BAc 0).trans (rfl : _ = some (Value.int .i64 h))
    have p1 := (blk_cell BPc 1).trans (rfl : _ = some (Value.int .i64 v))
    have pf1 := blk_frozen BPc 1
    have r1_ := (blk_cell BRc 1).trans (rfl : _ = some (Value.int .i64 0))
    have rf1 := blk_frozen BRc 1
    have a1 := (blk_cell BAc 1).trans (rfl : _ = some (Value.int .i64 v))
    have p2 := (blk_cell BPc 2).trans (rfl : _ = some (Value.int .i64 1))
    have pf2 := blk_frozen BPc 2
    have r2_ := (blk_cell BRc 2).trans (rfl : _ = some (Value.int .i64 0))
    have rf2 := blk_frozen BRc 2
    have a2 := (blk_cell BAc 2).trans (rfl : _ = some (Value.int .i64 6))
    have p3 := (blk_cell BPc 3).trans (rfl : _ = some (Value.int .i64 bal))
    have pf3 := blk_frozen BPc 3
    have r3_ := (blk_cell BRc 3).trans (rfl : _ = some (Value.int .i64 0))
    have rf3 := blk_frozen BRc 3
    have a3 := (blk_cell BAc 3).trans (rfl : _ = some (Value.int .i64 bal))
    have p4 := (blk_cell BPc 4).trans (rfl : _ = some (Value.int .i64 val))
    have pf4 := blk_frozen BPc 4
    have r4_ := (blk_cell BRc 4).trans (rfl : _ = some (Value.int .i64 0))
    have rf4 := blk_frozen BRc 4
    have a4 := (blk_cell BAc 4).trans (rfl : _ = some (Value.int .i64 val))
    have p5 := (blk_cell BPc 5).trans (rfl : _ = some (Value.int .i64 nx))
    have pf5 := blk_frozen BPc 5
    have r5_ := (blk_cell BRc 5).trans (rfl : _ = some (Value.int .i64 0))
    have rf5 := blk_frozen BRc 5
    have a5 := (blk_cell BAc 5).trans (rfl : _ = some (Value.int .i64 nx))
    have p6 := (blk_cell BPc 6).trans (rfl : _ = some (Value.int .i64 best))
    have pf6 := blk_frozen BPc 6
    have r6_ := (blk_cell BRc 6).trans (rfl : _ = some (Value.int .i64 0))
    have rf6 := blk_frozen BRc 6
    have a6 := (blk_cell BAc 6).trans (rfl : _ = some (Value.int .i64 best))
    have p7 := (blk_cell BPc 7).trans (rfl : _ = some (Value.int .i64 bb))
    have pf7 := blk_frozen BPc 7
    have r7_ := (blk_cell BRc 7).trans (rfl : _ = some (Value.int .i64 0))
    have rf7 := blk_frozen BRc 7
    have a7 := (blk_cell BAc 7).trans (rfl : _ = some (Value.int .i64 bb))
    have HBC := Aside0.mk (below_step HB4 hbc)
    have BRA := Aside0.mk BRc
    have BPA := Aside0.mk BPc
    have HGB := Aside0.mk hgb
    clear hgb BPc BRc BAc hbc hge HB4
    have hf := HF.out
    unfold pxWriteD at hf
    dsimp only at hf
    rw [if_pos rfl] at hf
    by_cases e1 : v < d0 ∨ bal < d1 ∨ d1 = bal
    · rw [if_pos e1] at hf
      simp only [Prod.mk.injEq] at hf
      obtain ⟨rfl, rfl, rfl, rfl, rfl, rfl, rfl, rfl, rfl⟩ := hf
      by_cases e0 : v < d0
      · clear e1
        go_wp2
        refine bodyPost_ret (v := .agg #[.int .i64 h, .int .i64 v, .int .i64 6, .int .i64 bal, .int .i64 val, .int .i64 nx, .int .i64 best, .int .i64 bb]) ?_ rfl ?_
        · refine res8 (by rfl) ?_
          with_reducible refine put8z ?_
          repeat (first | (with_reducible exact BRA.out) | (with_reducible refine blk_far ?_ ?ne _; case ne => ((try dsimp only); omega)))
        · refine ⟨rfl, ?_, ?_, ?_⟩
          · exact Kd.R_below HR.out (by repeat (first | (with_reducible exact HBC.out) | (with_reducible refine below_set ?_ ?ne; case ne => ((try dsimp only); omega))))
          · exact Kept.of_below (by repeat (first | (with_reducible exact HBC.out) | (with_reducible refine below_set ?_ ?ne; case ne => ((try dsimp only); omega)))) ok
          · exact Below.mono (by repeat (first | (with_reducible exact HBC.out) | (with_reducible refine below_set ?_ ?ne; case ne => ((try dsimp only); omega)))) (by omega)
      by_cases e2 : bal < d1
      · clear e1
        go_wp2
        refine bodyPost_ret (v := .agg #[.int .i64 h, .int .i64 v, .int .i64 6, .int .i64 bal, .int .i64 val, .int .i64 nx, .int .i64 best, .int .i64 bb]) ?_ rfl ?_
        · refine res8 (by rfl) ?_
          with_reducible refine put8z ?_
          repeat (first | (with_reducible exact BRA.out) | (with_reducible refine blk_far ?_ ?ne _; case ne => ((try dsimp only); omega)))
        · refine ⟨rfl, ?_, ?_, ?_⟩
          · exact Kd.R_below HR.out (by repeat (first | (with_reducible exact HBC.out) | (with_reducible refine below_set ?_ ?ne; case ne => ((try dsimp only); omega))))
          · exact Kept.of_below (by repeat (first | (with_reducible exact HBC.out) | (with_reducible refine below_set ?_ ?ne; case ne => ((try dsimp only); omega)))) ok
          · exact Below.mono (by repeat (first | (with_reducible exact HBC.out) | (with_reducible refine below_set ?_ ?ne; case ne => ((try dsimp only); omega)))) (by omega)
      have e3 : d1 = bal := (e1.resolve_left e0).resolve_left e2
      clear e1
      go_wp2
      refine bodyPost_ret (v := .agg #[.int .i64 h, .int .i64 v, .int .i64 6, .int .i64 bal, .int .i64 val, .int .i64 nx, .int .i64 best, .int .i64 bb]) ?_ rfl ?_
      · refine res8 (by rfl) ?_
        with_reducible refine put8z ?_
        repeat (first | (with_reducible exact BRA.out) | (with_reducible refine blk_far ?_ ?ne _; case ne => ((try dsimp only); omega)))
      · refine ⟨rfl, ?_, ?_, ?_⟩
        · exact Kd.R_below HR.out (by repeat (first | (with_reducible exact HBC.out) | (with_reducible refine below_set ?_ ?ne; case ne => ((try dsimp only); omega))))
        · exact Kept.of_below (by repeat (first | (with_reducible exact HBC.out) | (with_reducible refine below_set ?_ ?ne; case ne => ((try dsimp only); omega)))) ok
        · exact Below.mono (by repeat (first | (with_reducible exact HBC.out) | (with_reducible refine below_set ?_ ?ne; case ne => ((try dsimp only); omega)))) (by omega)
    rw [if_neg e1] at hf
    simp only [Prod.mk.injEq] at hf
    obtain ⟨rfl, rfl, rfl, rfl, rfl, rfl, rfl, rfl, rfl⟩ := hf
    have e0 : ¬ v < d0 := fun x => e1 (.inl x)
    have e2 : ¬ bal < d1 := fun x => e1 (.inr (.inl x))
    have e3 : (d1 != bal) = true := by have : ¬ d1 = bal := fun x => e1 (.inr (.inr x)); simp [this]
    clear e1
    go_upto_if 62 with fail
    go_cut [] (fun wx => wx.heap[gb]? = some (.cells #[.int .i64 d0, .int .i64 bal, .int .i64 d2, .int .i64 d3] 53 (0, 0)) ∧ wx.heap[w.heap.size]? = some (.cells #[.int .i64 h, .int .i64 v, .int .i64 2, .int .i64 bal, .int .i64 val, .int .i64 nx, .int .i64 d3, .int .i64 d2] 26 (0, 0)) ∧ wx.heap[w.heap.size + 1]? = some (.cells #[.int .i64 0, .int .i64 0, .int .i64 0, .int .i64 0, .int .i64 0, .int .i64 0, .int .i64 0, .int .i64 0] 26 (0, 0)) ∧ Below w.heap.size w wx)
    case first =>
      go_wp2
      go_region
      go_wp2_with fail
      go_meet
      refine ⟨?_, ?_, ?_, ?_⟩
      · exact (blk_far (blk_far (blk_far (blk_put (cs := #[.int .i64 d0, .int .i64 d1, .int .i64 d2, .int .i64 d3]) HGB.out 1 _ rfl) (by (try dsimp only); omega) _) (by (try dsimp only); omega) _) (by (try dsimp only); omega) _)
      · exact (blk_put (cs := #[.int .i64 h, .int .i64 v, .int .i64 1, .int .i64 bal, .int .i64 val, .int .i64 nx, .int .i64 d3, .int .i64 d2]) (blk_put (cs := #[.int .i64 h, .int .i64 v, .int .i64 1, .int .i64 bal, .int .i64 val, .int .i64 nx, .int .i64 d3, .int .i64 bb]) (blk_put (cs := #[.int .i64 h, .int .i64 v, .int .i64 1, .int .i64 bal, .int .i64 val, .int .i64 nx, .int .i64 best, .int .i64 bb]) (blk_far BPA.out (by (try dsimp only); omega) _) 6 _ rfl) 7 _ rfl) 2 _ rfl)
      · exact (blk_far (blk_far (blk_far (blk_far BRA.out (by (try dsimp only); omega) _) (by (try dsimp only); omega) _) (by (try dsimp only); omega) _) (by (try dsimp only); omega) _)
      · repeat (first | (with_reducible exact HBC.out) | (with_reducible refine Below.drew ?_) | (with_reducible refine below_set ?_ ?ne; case ne => ((try dsimp only); omega)))
    case rest =>
      obtain ⟨hgb, hbp, hbr, hbc⟩ := hcut
      clear g0 g1 g2 g3 gf0 gf1 gf2 gf3 e0 e2 e3 p0 pf0 r0_ rf0 a0 p1 pf1 r1_ rf1 a1 p2 pf2 r2_ rf2 a2 p3 pf3 r3_ rf3 a3 p4 pf4 r4_ rf4 a4 p5 pf5 r5_ rf5 a5 p6 pf6 r6_ rf6 a6 p7 pf7 r7_ rf7 a7 HGB BPA BRA HBC
      have g0 := (blk_cell hgb 0).trans (rfl : _ = some (Value.int .i64 d0))
      have g1 := (blk_cell hgb 1).trans (rfl : _ = some (Value.int .i64 bal))
      have g2 := (blk_cell hgb 2).trans (rfl : _ = some (Value.int .i64 d2))
      have g3 := (blk_cell hgb 3).trans (rfl : _ = some (Value.int .i64 d3))
      have p0 := (blk_cell hbp 0).trans (rfl : _ = some (Value.int .i64 h))
      have pf0 := blk_frozen hbp 0
      have r0_ := (blk_cell hbr 0).trans (rfl : _ = some (Value.int .i64 0))
      have rf0 := blk_frozen hbr 0
      have p1 := (blk_cell hbp 1).trans (rfl : _ = some (Value.int .i64 v))
      have pf1 := blk_frozen hbp 1
      have r1_ := (blk_cell hbr 1).trans (rfl : _ = some (Value.int .i64 0))
      have rf1 := blk_frozen hbr 1
      have p2 := (blk_cell hbp 2).trans (rfl : _ = some (Value.int .i64 2))
      have pf2 := blk_frozen hbp 2
      have r2_ := (blk_cell hbr 2).trans (rfl : _ = some (Value.int .i64 0))
      have rf2 := blk_frozen hbr 2
      have p3 := (blk_cell hbp 3).trans (rfl : _ = some (Value.int .i64 bal))
      have pf3 := blk_frozen hbp 3
      have r3_ := (blk_cell hbr 3).trans (rfl : _ = some (Value.int .i64 0))
      have rf3 := blk_frozen hbr 3
      have p4 := (blk_cell hbp 4).trans (rfl : _ = some (Value.int .i64 val))
      have pf4 := blk_frozen hbp 4
      have r4_ := (blk_cell hbr 4).trans (rfl : _ = some (Value.int .i64 0))
      have rf4 := blk_frozen hbr 4
      have p5 := (blk_cell hbp 5).trans (rfl : _ = some (Value.int .i64 nx))
      have pf5 := blk_frozen hbp 5
      have r5_ := (blk_cell hbr 5).trans (rfl : _ = some (Value.int .i64 0))
      have rf5 := blk_frozen hbr 5
      have p6 := (blk_cell hbp 6).trans (rfl : _ = some (Value.int .i64 d3))
      have pf6 := blk_frozen hbp 6
      have r6_ := (blk_cell hbr 6).trans (rfl : _ = some (Value.int .i64 0))
      have rf6 := blk_frozen hbr 6
      have p7 := (blk_cell hbp 7).trans (rfl : _ = some (Value.int .i64 d2))
      have pf7 := blk_frozen hbp 7
      have r7_ := (blk_cell hbr 7).trans (rfl : _ = some (Value.int .i64 0))
      have rf7 := blk_frozen hbr 7
      have hR' := Kd.R_mono (ok' := fun k => ok k ∧ k < w.heap.size) (Kd.R_bound HR.out) (fun k hk => ⟨hk.1, hk.2.2.1⟩)
      replace hR' := Kd.R_below hR' hbc
      obtain ⟨⟨x0, x1, x2, x3⟩, xf0, xf1, xf2, xf3⟩ := own_cells hR' h h0 h4
      have HRC := Aside0.mk hR'
      have HBC := Aside0.mk hbc
      have BRA := Aside0.mk hbr
      clear hR' hbc hbr hbp hgb
      have ng0 : g ≠ w.heap.size := by omega
      have ng1 : g ≠ w.heap.size + 1 := by omega
      have ng2 : g ≠ gb := by omega
      go_wp2
      refine bodyPost_ret (v := .agg #[.int .i64 h, .int .i64 v, .int .i64 2, .int .i64 bal, .int .i64 val, .int .i64 0, .int .i64 d3, .int .i64 d2]) ?_ rfl ?_
      · refine res8 (by rfl) ?_
        with_reducible refine put8z ?_
        repeat (first | (with_reducible exact BRA.out) | (with_reducible refine blk_far ?_ ?ne _; case ne => ((try dsimp only); omega)))
      · exact ⟨rfl, write_end h ⟨d0, bal, d2, d3⟩ HRC.out HBC.out HOK.out hbg hgl h0 h4⟩
set_option maxRecDepth 100000 in
set_option maxHeartbeats 16000000 in
theorem step_3 (h v bal val nx best bb : Int) (r1 r2 r3 r4 r5 r6 r7 r8 : Int) (lr : List S53) (base g cap : Nat) (ok : Nat → Prop) (l : List S53) (w : World) (hR : Kd.R k53 53 w base ok (.slice (some ⟨g, 0, none⟩) 4 cap) l) (hok : ok g) (hbg : base ≤ g) (hgl : g < w.heap.size) (h0 : 0 ≤ h) (h4 : h < 4)
    (hf : pxWrite h v 3 bal val nx best bb l = (r1, r2, r3, r4, r5, r6, r7, r8, lr)) :
    Calls Try.prog 44 #[.agg #[.int .i64 h, .int .i64 v, .int .i64 3, .int .i64 bal, .int .i64 val, .int .i64 nx, .int .i64 best, .int .i64 bb], .slice (some ⟨g, 0, none⟩) 4 cap] w fun e w' => e = .returned (.agg #[.int .i64 r1, .int .i64 r2, .int .i64 r3, .int .i64 r4, .int .i64 r5, .int .i64 r6, .int .i64 r7, .int .i64 r8]) ∧ Kd.R k53 53 w' base ok (.slice (some ⟨g, 0, none⟩) 4 cap) lr ∧ Kept w w' ok ∧ Below base w w' := by
  have hu53 := Try.underlying53
  have hu26 := Try.underlying26
  have HR := Aside0.mk hR
  have HOK := Aside0.mk hok
  clear hR hok
  unfold pxWrite at hf
  have HF := Aside0.mk hf
  clear hf
  have q0 : (0 ≤ h) = True := eq_true h0
  have q1 : (h < (4 : Int)) = True := eq_true h4
  go_enter Try.func44, Try.ntmps44
  go_wp2
  go_region
  go_upto_region 5 with fail
  have HB4 := three_below w (.cells #[.int .i64 h, .int .i64 v, .int .i64 3, .int .i64 bal, .int .i64 val, .int .i64 nx, .int .i64 best, .int .i64 bb] 26) (.cells #[.int .i64 0, .int .i64 0, .int .i64 0, .int .i64 0, .int .i64 0, .int .i64 0, .int .i64 0, .int .i64 0] 26) (.cells #[.int .i64 h, .int .i64 v, .int .i64 6, .int .i64 bal, .int .i64 val, .int .i64 nx, .int .i64 best, .int .i64 bb] 26)
  have hs4 := three_size w (.cells #[.int .i64 h, .int .i64 v, .int .i64 3, .int .i64 bal, .int .i64 val, .int .i64 nx, .int .i64 best, .int .i64 bb] 26) (.cells #[.int .i64 0, .int .i64 0, .int .i64 0, .int .i64 0, .int .i64 0, .int .i64 0, .int .i64 0, .int .i64 0] 26) (.cells #[.int .i64 h, .int .i64 v, .int .i64 6, .int .i64 bal, .int .i64 val, .int .i64 nx, .int .i64 best, .int .i64 bb] 26)
  have BP := three_first w (.cells #[.int .i64 h, .int .i64 v, .int .i64 3, .int .i64 bal, .int .i64 val, .int .i64 nx, .int .i64 best, .int .i64 bb] 26) (.cells #[.int .i64 0, .int .i64 0, .int .i64 0, .int .i64 0, .int .i64 0, .int .i64 0, .int .i64 0, .int .i64 0] 26) (.cells #[.int .i64 h, .int .i64 v, .int .i64 6, .int .i64 bal, .int .i64 val, .int .i64 nx, .int .i64 best, .int .i64 bb] 26)
  have BR := three_second w (.cells #[.int .i64 h, .int .i64 v, .int .i64 3, .int .i64 bal, .int .i64 val, .int .i64 nx, .int .i64 best, .int .i64 bb] 26) (.cells #[.int .i64 0, .int .i64 0, .int .i64 0, .int .i64 0, .int .i64 0, .int .i64 0, .int .i64 0, .int .i64 0] 26) (.cells #[.int .i64 h, .int .i64 v, .int .i64 6, .int .i64 bal, .int .i64 val, .int .i64 nx, .int .i64 best, .int .i64 bb] 26)
  have BA := three_third w (.cells #[.int .i64 h, .int .i64 v, .int .i64 3, .int .i64 bal, .int .i64 val, .int .i64 nx, .int .i64 best, .int .i64 bb] 26) (.cells #[.int .i64 0, .int .i64 0, .int .i64 0, .int .i64 0, .int .i64 0, .int .i64 0, .int .i64 0, .int .i64 0] 26) (.cells #[.int .i64 h, .int .i64 v, .int .i64 6, .int .i64 bal, .int .i64 val, .int .i64 nx, .int .i64 best, .int .i64 bb] 26)
  generalize (((w.alloc (.cells #[.int .i64 h, .int .i64 v, .int .i64 3, .int .i64 bal, .int .i64 val, .int .i64 nx, .int .i64 best, .int .i64 bb] 26)).alloc (.cells #[.int .i64 0, .int .i64 0, .int .i64 0, .int .i64 0, .int .i64 0, .int .i64 0, .int .i64 0, .int .i64 0] 26)).alloc (.cells #[.int .i64 h, .int .i64 v, .int .i64 6, .int .i64 bal, .int .i64 val, .int .i64 nx, .int .i64 best, .int .i64 bb] 26)).drew = W4 at HB4 hs4 BP BR BA ⊢
  have HS4 := Aside0.mk hs4
  clear hs4
  obtain ⟨⟨x0, x1, x2, x3⟩, _⟩ := own_cells HR.out h h0 h4
  have hf := HF.out
  have hd := pxOf_f (x := rd_T53 l h) (v := v)
  generalize rd_T53 l h = bq at x0 x1 x2 x3 hd hf
  generalize pxOf bq v = dq at hd hf
  obtain ⟨b0, b1, b2, b3⟩ := bq
  obtain ⟨d0, d1, d2, d3⟩ := dq
  dsimp only at x0 x1 x2 x3 hd
  have HOF := Aside0.mk (fun W => impl_Block_of.calls b0 b1 b2 b3 v d0 d1 d2 d3 W hd)
  clear hd HF
  have HF := Aside0.mk hf
  clear hf
  have S0 := Aside0.mk (And.intro (cell_later HB4 x0) (And.intro (cell_later HB4 x1) (And.intro (cell_later HB4 x2) (And.intro (cell_later HB4 x3) (And.intro ((blk_cell BP 1).trans (rfl : _ = some (Value.int .i64 v))) ((blk_cell BP 0).trans (rfl : _ = some (Value.int .i64 h))))))))
  clear x0 x1 x2 x3
  go_cut [8] (fun v9 wx => ∃ gb, v9 = .pointer (some ⟨gb, 0, none⟩) ∧ wx.heap[gb]? = some (.cells #[.int .i64 d0, .int .i64 d1, .int .i64 d2, .int .i64 d3] 53 (0, 0)) ∧ W4.heap.size ≤ gb ∧ Below W4.heap.size W4 wx)
  case first =>
    go_region_held3 (fun w' => w'.cell? ⟨g, h.toNat * 4, none⟩ = some (.int .i64 b0) ∧ w'.cell? ⟨g, h.toNat * 4 + 1, none⟩ = some (.int .i64 b1) ∧ w'.cell? ⟨g, h.toNat * 4 + 2, none⟩ = some (.int .i64 b2) ∧ w'.cell? ⟨g, h.toNat * 4 + 3, none⟩ = some (.int .i64 b3) ∧ w'.cell? ⟨w.heap.size, 1, none⟩ = some (.int .i64 v) ∧ w'.cell? ⟨w.heap.size, 0, none⟩ = some (.int .i64 h))
      (first | exact S0.out | (refine six_step S0.out ?_; (repeat (first | (with_reducible exact Below.refl _ _) | exact HBC.out | (with_reducible apply Below.drew) | (with_reducible apply below_alloc) | (with_reducible refine below_set ?_ (Nat.le_refl _))))))
      (first | (go_at_call 67; refine (HOF.out _).mono ?_; rintro e w' ⟨rfl, hb⟩; (first | (have HBC : Aside0 (Below W4.heap.size W4 w') := ⟨below_first hb⟩) | (have HBC : Aside0 (Below W4.heap.size W4 w') := ⟨below_last hb⟩)); (try (have bz : w'.heap[W4.heap.size]? = _ := blk_below (blk_drew (blk_new W4 _)) hb; have z0 := (blk_cell bz 0).trans (rfl : _ = some (Value.int .i64 0)); have z1 := (blk_cell bz 1).trans (rfl : _ = some (Value.int .i64 0)); have z2 := (blk_cell bz 2).trans (rfl : _ = some (Value.int .i64 0)); have z3 := (blk_cell bz 3).trans (rfl : _ = some (Value.int .i64 0)); have t0 := blk_frozen bz 0; have t1 := blk_frozen bz 1; have t2 := blk_frozen bz 2; have t3 := blk_frozen bz 3; have BZ := Aside0.mk bz; clear bz)); clear hb))
    all_goals (go_wp2_with fail; go_meet)
    · exact ⟨_, rfl, blk_new _ _, HBC.out.size, below_alloc HBC.out _⟩
    · refine ⟨_, rfl, blk_put (cs := #[.int .i64 d0, .int .i64 d1, .int .i64 d2, .int .i64 0]) (blk_put (cs := #[.int .i64 d0, .int .i64 d1, .int .i64 0, .int .i64 0]) (blk_put (cs := #[.int .i64 d0, .int .i64 0, .int .i64 0, .int .i64 0]) (blk_put BZ.out 0 _ rfl) 1 _ rfl) 2 _ rfl) 3 _ rfl, Nat.le_refl _, below_set (below_set (below_set (below_set HBC.out (Nat.le_refl _)) (Nat.le_refl _)) (Nat.le_refl _)) (Nat.le_refl _)⟩
  case rest =>
    obtain ⟨gb, rfl, hgb, hge, hbc⟩ := hcut
    have BPc := blk_below BP hbc
    have BRc := blk_below BR hbc
    have BAc := blk_below BA hbc
    clear BP BR BA S0
    have n0 : gb ≠ w.heap.size := by have := HS4.out; omega
    have n1 : gb ≠ w.heap.size + 1 := by have := HS4.out; omega
    have n2 : gb ≠ w.heap.size + 1 + 1 := by have := HS4.out; omega
    have GE : w.heap.size ≤ gb := by have := HS4.out; omega
    have g0 := (blk_cell hgb 0).trans (rfl : _ = some (Value.int .i64 d0))
    have g1 := (blk_cell hgb 1).trans (rfl : _ = some (Value.int .i64 d1))
    have g2 := (blk_cell hgb 2).trans (rfl : _ = some (Value.int .i64 d2))
    have g3 := (blk_cell hgb 3).trans (rfl : _ = some (Value.int .i64 d3))
    have gf0 := blk_frozen hgb 0
    have gf1 := blk_frozen hgb 1
    have gf2 := blk_frozen hgb 2
    have gf3 := blk_frozen hgb 3
    have p0 := (blk_cell BPc 0).trans (rfl : _ = some (Value.int .i64 h))
    have pf0 := blk_frozen BPc 0
    have r0_ := (blk_cell BRc 0).trans (rfl : _ = some (Value.int .i64 0))
    have rf0 := blk_frozen BRc 0
    have a0 := (blk_cell BAc 0).trans (rfl : _ = some (Value.int .i64 h))
    have p1 := (blk_cell BPc 1).trans (rfl : _ = some (Value.int .i64 v))
    have pf1 := blk_frozen BPc 1
    have r1_ := (blk_cell BRc 1).trans (rfl : _ = some (Value.int .i64 0))
    have rf1 := blk_frozen BRc 1
    have a1 := (blk_cell BAc 1).trans (rfl : _ = some (Value.int .i64 v))
    have p2 := (blk_cell BPc 2).trans (rfl : _ = some (Value.int .i64 3))
    have pf2 := blk_frozen BPc 2
    have r2_ := (blk_cell BRc 2).trans (rfl : _ = some (Value.int .i64 0))
    have rf2 := blk_frozen BRc 2
    have a2 := (blk_cell BAc 2).trans (rfl : _ = some (Value.int .i64 6))
    have p3 := (blk_cell BPc 3).trans (rfl : _ = some (Value.int .i64 bal))
    have pf3 := blk_frozen BPc 3
    have r3_ := (blk_cell BRc 3).trans (rfl : _ = some (Value.int .i64 0))
    have rf3 := blk_frozen BRc 3
    have a3 := (blk_cell BAc 3).trans (rfl : _ = some (Value.int .i64 bal))
    have p4 := (blk_cell BPc 4).trans (rfl : _ = some (Value.int .i64 val))
    have pf4 := blk_frozen BPc 4
    have r4_ := (blk_cell BRc 4).trans (rfl : _ = some (Value.int .i64 0))
    have rf4 := blk_frozen BRc 4
    have a4 := (blk_cell BAc 4).trans (rfl : _ = some (Value.int .i64 val))
    have p5 := (blk_cell BPc 5).trans (rfl : _ = some (Value.int .i64 nx))
    have pf5 := blk_frozen BPc 5
    have r5_ := (blk_cell BRc 5).trans (rfl : _ = some (Value.int .i64 0))
    have rf5 := blk_frozen BRc 5
    have a5 := (blk_cell BAc 5).trans (rfl : _ = some (Value.int .i64 nx))
    have p6 := (blk_cell BPc 6).trans (rfl : _ = some (Value.int .i64 best))
    have pf6 := blk_frozen BPc 6
    have r6_ := (blk_cell BRc 6).trans (rfl : _ = some (Value.int .i64 0))
    have rf6 := blk_frozen BRc 6
    have a6 := (blk_cell BAc 6).trans (rfl : _ = some (Value.int .i64 best))
    have p7 := (blk_cell BPc 7).trans (rfl : _ = some (Value.int .i64 bb))
    have pf7 := blk_frozen BPc 7
    have r7_ := (blk_cell BRc 7).trans (rfl : _ = some (Value.int .i64 0))
    have rf7 := blk_frozen BRc 7
    have a7 := (blk_cell BAc 7).trans (rfl : _ = some (Value.int .i64 bb))
    have HBC := Aside0.mk (below_step HB4 hbc)
    have BRA := Aside0.mk BRc
    have BPA := Aside0.mk BPc
    have HGB := Aside0.mk hgb
    clear hgb BPc BRc BAc hbc hge HB4
    have hf := HF.out
    unfold pxWriteD at hf
    dsimp only at hf
    rw [if_neg (by decide)] at hf
    by_cases e1 : v < d0 ∨ bal < d1 ∨ ¬ d1 = bal
    · rw [if_pos e1] at hf
      simp only [Prod.mk.injEq] at hf
      obtain ⟨rfl, rfl, rfl, rfl, rfl, rfl, rfl, rfl, rfl⟩ := hf
      by_cases e0 : v < d0
      · clear e1
        go_wp2
        refine bodyPost_ret (v := .agg #[.int .i64 h, .int .i64 v, .int .i64 6, .int .i64 bal, .int .i64 val, .int .i64 nx, .int .i64 best, .int .i64 bb]) ?_ rfl ?_
        · refine res8 (by rfl) ?_
          with_reducible refine put8z ?_
          repeat (first | (with_reducible exact BRA.out) | (with_reducible refine blk_far ?_ ?ne _; case ne => ((try dsimp only); omega)))
        · refine ⟨rfl, ?_, ?_, ?_⟩
          · exact Kd.R_below HR.out (by repeat (first | (with_reducible exact HBC.out) | (with_reducible refine below_set ?_ ?ne; case ne => ((try dsimp only); omega))))
          · exact Kept.of_below (by repeat (first | (with_reducible exact HBC.out) | (with_reducible refine below_set ?_ ?ne; case ne => ((try dsimp only); omega)))) ok
          · exact Below.mono (by repeat (first | (with_reducible exact HBC.out) | (with_reducible refine below_set ?_ ?ne; case ne => ((try dsimp only); omega)))) (by omega)
      by_cases e2 : bal < d1
      · clear e1
        go_wp2
        refine bodyPost_ret (v := .agg #[.int .i64 h, .int .i64 v, .int .i64 6, .int .i64 bal, .int .i64 val, .int .i64 nx, .int .i64 best, .int .i64 bb]) ?_ rfl ?_
        · refine res8 (by rfl) ?_
          with_reducible refine put8z ?_
          repeat (first | (with_reducible exact BRA.out) | (with_reducible refine blk_far ?_ ?ne _; case ne => ((try dsimp only); omega)))
        · refine ⟨rfl, ?_, ?_, ?_⟩
          · exact Kd.R_below HR.out (by repeat (first | (with_reducible exact HBC.out) | (with_reducible refine below_set ?_ ?ne; case ne => ((try dsimp only); omega))))
          · exact Kept.of_below (by repeat (first | (with_reducible exact HBC.out) | (with_reducible refine below_set ?_ ?ne; case ne => ((try dsimp only); omega)))) ok
          · exact Below.mono (by repeat (first | (with_reducible exact HBC.out) | (with_reducible refine below_set ?_ ?ne; case ne => ((try dsimp only); omega)))) (by omega)
      have e3 : ¬ d1 = bal := (e1.resolve_left e0).resolve_left e2
      clear e1
      go_wp2
      refine bodyPost_ret (v := .agg #[.int .i64 h, .int .i64 v, .int .i64 6, .int .i64 bal, .int .i64 val, .int .i64 nx, .int .i64 best, .int .i64 bb]) ?_ rfl ?_
      · refine res8 (by rfl) ?_
        with_reducible refine put8z ?_
        repeat (first | (with_reducible exact BRA.out) | (with_reducible refine blk_far ?_ ?ne _; case ne => ((try dsimp only); omega)))
      · refine ⟨rfl, ?_, ?_, ?_⟩
        · exact Kd.R_below HR.out (by repeat (first | (with_reducible exact HBC.out) | (with_reducible refine below_set ?_ ?ne; case ne => ((try dsimp only); omega))))
        · exact Kept.of_below (by repeat (first | (with_reducible exact HBC.out) | (with_reducible refine below_set ?_ ?ne; case ne => ((try dsimp only); omega)))) ok
        · exact Below.mono (by repeat (first | (with_reducible exact HBC.out) | (with_reducible refine below_set ?_ ?ne; case ne => ((try dsimp only); omega)))) (by omega)
    rw [if_neg e1] at hf
    simp only [Prod.mk.injEq] at hf
    obtain ⟨rfl, rfl, rfl, rfl, rfl, rfl, rfl, rfl, rfl⟩ := hf
    have e0 : ¬ v < d0 := fun x => e1 (.inl x)
    have e2 : ¬ bal < d1 := fun x => e1 (.inr (.inl x))
    have e3 : d1 = bal := Classical.byContradiction fun x => e1 (.inr (.inr x))
    clear e1
    go_upto_if 62 with fail
    go_cut [] (fun wx => wx.heap[gb]? = some (.cells #[.int .i64 d0, .int .i64 bal, .int .i64 bal, .int .i64 val] 53 (0, 0)) ∧ wx.heap[w.heap.size]? = some (.cells #[.int .i64 h, .int .i64 v, .int .i64 4, .int .i64 bal, .int .i64 val, .int .i64 nx, .int .i64 best, .int .i64 bb] 26 (0, 0)) ∧ wx.heap[w.heap.size + 1]? = some (.cells #[.int .i64 0, .int .i64 0, .int .i64 0, .int .i64 0, .int .i64 0, .int .i64 0, .int .i64 0, .int .i64 0] 26 (0, 0)) ∧ Below w.heap.size w wx)
    case first =>
      go_wp2
      go_region
      go_wp2_with fail
      go_meet
      refine ⟨?_, ?_, ?_, ?_⟩
      · exact (blk_far (blk_put (cs := #[.int .i64 d0, .int .i64 bal, .int .i64 bal, .int .i64 d3]) (blk_put (cs := #[.int .i64 d0, .int .i64 bal, .int .i64 d2, .int .i64 d3]) (blk_put (cs := #[.int .i64 d0, .int .i64 d1, .int .i64 d2, .int .i64 d3]) HGB.out 1 _ rfl) 2 _ rfl) 3 _ rfl) (by (try dsimp only); omega) _)
      · exact (blk_put (cs := #[.int .i64 h, .int .i64 v, .int .i64 3, .int .i64 bal, .int .i64 val, .int .i64 nx, .int .i64 best, .int .i64 bb]) (blk_far (blk_far (blk_far BPA.out (by (try dsimp only); omega) _) (by (try dsimp only); omega) _) (by (try dsimp only); omega) _) 2 _ rfl)
      · exact (blk_far (blk_far (blk_far (blk_far BRA.out (by (try dsimp only); omega) _) (by (try dsimp only); omega) _) (by (try dsimp only); omega) _) (by (try dsimp only); omega) _)
      · repeat (first | (with_reducible exact HBC.out) | (with_reducible refine Below.drew ?_) | (with_reducible refine below_set ?_ ?ne; case ne => ((try dsimp only); omega)))
    case rest =>
      obtain ⟨hgb, hbp, hbr, hbc⟩ := hcut
      clear g0 g1 g2 g3 gf0 gf1 gf2 gf3 e0 e2 e3 p0 pf0 r0_ rf0 a0 p1 pf1 r1_ rf1 a1 p2 pf2 r2_ rf2 a2 p3 pf3 r3_ rf3 a3 p4 pf4 r4_ rf4 a4 p5 pf5 r5_ rf5 a5 p6 pf6 r6_ rf6 a6 p7 pf7 r7_ rf7 a7 HGB BPA BRA HBC
      have g0 := (blk_cell hgb 0).trans (rfl : _ = some (Value.int .i64 d0))
      have g1 := (blk_cell hgb 1).trans (rfl : _ = some (Value.int .i64 bal))
      have g2 := (blk_cell hgb 2).trans (rfl : _ = some (Value.int .i64 bal))
      have g3 := (blk_cell hgb 3).trans (rfl : _ = some (Value.int .i64 val))
      have p0 := (blk_cell hbp 0).trans (rfl : _ = some (Value.int .i64 h))
      have pf0 := blk_frozen hbp 0
      have r0_ := (blk_cell hbr 0).trans (rfl : _ = some (Value.int .i64 0))
      have rf0 := blk_frozen hbr 0
      have p1 := (blk_cell hbp 1).trans (rfl : _ = some (Value.int .i64 v))
      have pf1 := blk_frozen hbp 1
      have r1_ := (blk_cell hbr 1).trans (rfl : _ = some (Value.int .i64 0))
      have rf1 := blk_frozen hbr 1
      have p2 := (blk_cell hbp 2).trans (rfl : _ = some (Value.int .i64 4))
      have pf2 := blk_frozen hbp 2
      have r2_ := (blk_cell hbr 2).trans (rfl : _ = some (Value.int .i64 0))
      have rf2 := blk_frozen hbr 2
      have p3 := (blk_cell hbp 3).trans (rfl : _ = some (Value.int .i64 bal))
      have pf3 := blk_frozen hbp 3
      have r3_ := (blk_cell hbr 3).trans (rfl : _ = some (Value.int .i64 0))
      have rf3 := blk_frozen hbr 3
      have p4 := (blk_cell hbp 4).trans (rfl : _ = some (Value.int .i64 val))
      have pf4 := blk_frozen hbp 4
      have r4_ := (blk_cell hbr 4).trans (rfl : _ = some (Value.int .i64 0))
      have rf4 := blk_frozen hbr 4
      have p5 := (blk_cell hbp 5).trans (rfl : _ = some (Value.int .i64 nx))
      have pf5 := blk_frozen hbp 5
      have r5_ := (blk_cell hbr 5).trans (rfl : _ = some (Value.int .i64 0))
      have rf5 := blk_frozen hbr 5
      have p6 := (blk_cell hbp 6).trans (rfl : _ = some (Value.int .i64 best))
      have pf6 := blk_frozen hbp 6
      have r6_ := (blk_cell hbr 6).trans (rfl : _ = some (Value.int .i64 0))
      have rf6 := blk_frozen hbr 6
      have p7 := (blk_cell hbp 7).trans (rfl : _ = some (Value.int .i64 bb))
      have pf7 := blk_frozen hbp 7
      have r7_ := (blk_cell hbr 7).trans (rfl : _ = some (Value.int .i64 0))
      have rf7 := blk_frozen hbr 7
      have hR' := Kd.R_mono (ok' := fun k => ok k ∧ k < w.heap.size) (Kd.R_bound HR.out) (fun k hk => ⟨hk.1, hk.2.2.1⟩)
      replace hR' := Kd.R_below hR' hbc
      obtain ⟨⟨x0, x1, x2, x3⟩, xf0, xf1, xf2, xf3⟩ := own_cells hR' h h0 h4
      have HRC := Aside0.mk hR'
      have HBC := Aside0.mk hbc
      have BRA := Aside0.mk hbr
      clear hR' hbc hbr hbp hgb
      have ng0 : g ≠ w.heap.size := by omega
      have ng1 : g ≠ w.heap.size + 1 := by omega
      have ng2 : g ≠ gb := by omega
      go_wp2
      refine bodyPost_ret (v := .agg #[.int .i64 h, .int .i64 v, .int .i64 4, .int .i64 bal, .int .i64 val, .int .i64 0, .int .i64 best, .int .i64 bb]) ?_ rfl ?_
      · refine res8 (by rfl) ?_
        with_reducible refine put8z ?_
        repeat (first | (with_reducible exact BRA.out) | (with_reducible refine blk_far ?_ ?ne _; case ne => ((try dsimp only); omega)))
      · exact ⟨rfl, write_end h ⟨d0, bal, bal, val⟩ HRC.out HBC.out HOK.out hbg hgl h0 h4⟩
end Go.Proofs.Ytlclbdfcniiolaa.Hand
