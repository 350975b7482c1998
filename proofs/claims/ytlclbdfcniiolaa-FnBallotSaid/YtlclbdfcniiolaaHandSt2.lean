/- The program's step in its reading phases: what it comes to; for every ballot whose next place lies from 0 to 4 and a list of four blocks. -/
import Derived.Test.YtlclbdfcniiolaaHandSta
import Derived.BigQuiet
import Derived.BigRegion
import Derived.RegionCalls
import Derived.Deep.RegionWith
import Derived.Deep.RegionHeld3
import Derived.Deep.DrawnRows
namespace Go.Proofs.Ytlclbdfcniiolaa.Hand
open Go.RowKit Go.Proofs.YtlclbdfcniiolaaW.PrintWords Go.Proofs.YtlclbdfcniiolaaW.PrintLast Go.Proofs.YtlclbdfcniiolaaW.PrintMore Go.Proofs.Ytlclbdfcniiolaa.Q
set_option linter.unusedVariables false
set_option linter.unusedSimpArgs false
attribute [local go_sem ↓] Go.wp_at_zero Go.wp_at_succ
set_option maxRecDepth 100000 in
set_option maxHeartbeats 16000000 in
theorem step_2 (h v bal val nx best bb : Int) (r1 r2 r3 r4 r5 r6 r7 r8 : Int) (base g cap : Nat) (ok : Nat → Prop) (l : List S53) (w : World) (hR : Kd.R k53 53 w base ok (.slice (some ⟨g, 0, none⟩) 4 cap) l) (h0 : 0 ≤ nx) (h4 : nx ≤ 4)
    (hf : pxRead h v 2 bal val nx best bb l = (r1, r2, r3, r4, r5, r6, r7, r8)) :
    Calls Try.prog 44 #[.agg #[.int .i64 h, .int .i64 v, .int .i64 2, .int .i64 bal, .int .i64 val, .int .i64 nx, .int .i64 best, .int .i64 bb], .slice (some ⟨g, 0, none⟩) 4 cap] w fun e w' => e = .returned (.agg #[.int .i64 r1, .int .i64 r2, .int .i64 r3, .int .i64 r4, .int .i64 r5, .int .i64 r6, .int .i64 r7, .int .i64 r8]) ∧ Below w.heap.size w w' := by
  have hu53 := Try.underlying53
  have hu26 := Try.underlying26
  have HR := Aside0.mk hR
  clear hR
  unfold pxRead at hf
  obtain ⟨m, hm⟩ : ∃ m, pxSkip h nx = m := ⟨_, rfl⟩
  have m0 : 0 ≤ m := by rw [← hm]; unfold pxSkip; split <;> omega
  have m4 : m ≤ 5 := by rw [← hm]; unfold pxSkip; split <;> omega
  rw [hm] at hf
  have HF := Aside0.mk hf
  clear hf
  go_enter Try.func44, Try.ntmps44
  go_wp2
  go_region
  go_upto_if 88 with fail
  go_cut [] (fun wx => wx = (((w.alloc (.cells #[.int .i64 h, .int .i64 v, .int .i64 2, .int .i64 bal, .int .i64 val, .int .i64 m, .int .i64 best, .int .i64 bb] 26)).alloc (.cells #[.int .i64 0, .int .i64 0, .int .i64 0, .int .i64 0, .int .i64 0, .int .i64 0, .int .i64 0, .int .i64 0] 26)).alloc (.cells #[.int .i64 h, .int .i64 v, .int .i64 6, .int .i64 bal, .int .i64 val, .int .i64 m, .int .i64 best, .int .i64 bb] 26)).drew)
  case first =>
    unfold pxSkip at hm
    by_cases c0 : nx = h
    · rw [if_pos c0] at hm
      subst hm
      go_wp2
      go_meet
      first | rfl | (simp only [c0])
    · rw [if_neg c0] at hm
      subst hm
      go_wp2
      go_meet
      rfl
  case rest =>
    subst hcut
    clear hm h0 h4
    have HB4 := three_below w (.cells #[.int .i64 h, .int .i64 v, .int .i64 2, .int .i64 bal, .int .i64 val, .int .i64 m, .int .i64 best, .int .i64 bb] 26) (.cells #[.int .i64 0, .int .i64 0, .int .i64 0, .int .i64 0, .int .i64 0, .int .i64 0, .int .i64 0, .int .i64 0] 26) (.cells #[.int .i64 h, .int .i64 v, .int .i64 6, .int .i64 bal, .int .i64 val, .int .i64 m, .int .i64 best, .int .i64 bb] 26)
    have hs4 := three_size w (.cells #[.int .i64 h, .int .i64 v, .int .i64 2, .int .i64 bal, .int .i64 val, .int .i64 m, .int .i64 best, .int .i64 bb] 26) (.cells #[.int .i64 0, .int .i64 0, .int .i64 0, .int .i64 0, .int .i64 0, .int .i64 0, .int .i64 0, .int .i64 0] 26) (.cells #[.int .i64 h, .int .i64 v, .int .i64 6, .int .i64 bal, .int .i64 val, .int .i64 m, .int .i64 best, .int .i64 bb] 26)
    have BP := three_first w (.cells #[.int .i64 h, .int .i64 v, .int .i64 2, .int .i64 bal, .int .i64 val, .int .i64 m, .int .i64 best, .int .i64 bb] 26) (.cells #[.int .i64 0, .int .i64 0, .int .i64 0, .int .i64 0, .int .i64 0, .int .i64 0, .int .i64 0, .int .i64 0] 26) (.cells #[.int .i64 h, .int .i64 v, .int .i64 6, .int .i64 bal, .int .i64 val, .int .i64 m, .int .i64 best, .int .i64 bb] 26)
    have BR := three_second w (.cells #[.int .i64 h, .int .i64 v, .int .i64 2, .int .i64 bal, .int .i64 val, .int .i64 m, .int .i64 best, .int .i64 bb] 26) (.cells #[.int .i64 0, .int .i64 0, .int .i64 0, .int .i64 0, .int .i64 0, .int .i64 0, .int .i64 0, .int .i64 0] 26) (.cells #[.int .i64 h, .int .i64 v, .int .i64 6, .int .i64 bal, .int .i64 val, .int .i64 m, .int .i64 best, .int .i64 bb] 26)
    have BA := three_third w (.cells #[.int .i64 h, .int .i64 v, .int .i64 2, .int .i64 bal, .int .i64 val, .int .i64 m, .int .i64 best, .int .i64 bb] 26) (.cells #[.int .i64 0, .int .i64 0, .int .i64 0, .int .i64 0, .int .i64 0, .int .i64 0, .int .i64 0, .int .i64 0] 26) (.cells #[.int .i64 h, .int .i64 v, .int .i64 6, .int .i64 bal, .int .i64 val, .int .i64 m, .int .i64 best, .int .i64 bb] 26)
    generalize (((w.alloc (.cells #[.int .i64 h, .int .i64 v, .int .i64 2, .int .i64 bal, .int .i64 val, .int .i64 m, .int .i64 best, .int .i64 bb] 26)).alloc (.cells #[.int .i64 0, .int .i64 0, .int .i64 0, .int .i64 0, .int .i64 0, .int .i64 0, .int .i64 0, .int .i64 0] 26)).alloc (.cells #[.int .i64 h, .int .i64 v, .int .i64 6, .int .i64 bal, .int .i64 val, .int .i64 m, .int .i64 best, .int .i64 bb] 26)).drew = W4 at HB4 hs4 BP BR BA ⊢
    have HS4 := Aside0.mk hs4
    clear hs4
    by_cases c4 : m < 4
    rotate_left
    · have hf := HF.out
      rw [if_neg c4] at hf
      unfold pxFin at hf
      rw [if_neg c4] at hf
      have p0 := (blk_cell BP 0).trans (rfl : _ = some (Value.int .i64 h))
      have pf0 := blk_frozen BP 0
      have r0_ := (blk_cell BR 0).trans (rfl : _ = some (Value.int .i64 0))
      have rf0 := blk_frozen BR 0
      have p1 := (blk_cell BP 1).trans (rfl : _ = some (Value.int .i64 v))
      have pf1 := blk_frozen BP 1
      have r1_ := (blk_cell BR 1).trans (rfl : _ = some (Value.int .i64 0))
      have rf1 := blk_frozen BR 1
      have p2 := (blk_cell BP 2).trans (rfl : _ = some (Value.int .i64 2))
      have pf2 := blk_frozen BP 2
      have r2_ := (blk_cell BR 2).trans (rfl : _ = some (Value.int .i64 0))
      have rf2 := blk_frozen BR 2
      have p3 := (blk_cell BP 3).trans (rfl : _ = some (Value.int .i64 bal))
      have pf3 := blk_frozen BP 3
      have r3_ := (blk_cell BR 3).trans (rfl : _ = some (Value.int .i64 0))
      have rf3 := blk_frozen BR 3
      have p4 := (blk_cell BP 4).trans (rfl : _ = some (Value.int .i64 val))
      have pf4 := blk_frozen BP 4
      have r4_ := (blk_cell BR 4).trans (rfl : _ = some (Value.int .i64 0))
      have rf4 := blk_frozen BR 4
      have p5 := (blk_cell BP 5).trans (rfl : _ = some (Value.int .i64 m))
      have pf5 := blk_frozen BP 5
      have r5_ := (blk_cell BR 5).trans (rfl : _ = some (Value.int .i64 0))
      have rf5 := blk_frozen BR 5
      have p6 := (blk_cell BP 6).trans (rfl : _ = some (Value.int .i64 best))
      have pf6 := blk_frozen BP 6
      have r6_ := (blk_cell BR 6).trans (rfl : _ = some (Value.int .i64 0))
      have rf6 := blk_frozen BR 6
      have p7 := (blk_cell BP 7).trans (rfl : _ = some (Value.int .i64 bb))
      have pf7 := blk_frozen BP 7
      have r7_ := (blk_cell BR 7).trans (rfl : _ = some (Value.int .i64 0))
      have rf7 := blk_frozen BR 7
      have HBC := Aside0.mk HB4
      have BRA := Aside0.mk BR
      clear BP BR BA HB4
      rw [if_neg (by decide)] at hf
      by_cases c5 : 0 < bb
      · rw [if_pos c5] at hf
        simp only [Prod.mk.injEq] at hf
        obtain ⟨rfl, rfl, rfl, rfl, rfl, rfl, rfl, rfl⟩ := hf
        go_wp2
        refine bodyPost_ret (v := .agg #[.int .i64 h, .int .i64 v, .int .i64 3, .int .i64 bal, .int .i64 best, .int .i64 m, .int .i64 best, .int .i64 bb]) ?_ rfl ?_
        · refine res8 (by rfl) ?_
          with_reducible refine put8z ?_
          repeat (first | (with_reducible exact BRA.out) | (with_reducible refine blk_far ?_ ?ne _; case ne => ((try dsimp only); omega)))
        · exact ⟨rfl, by repeat (first | (with_reducible exact HBC.out) | (with_reducible refine below_set ?_ ?ne; case ne => ((try dsimp only); omega)))⟩
      · rw [if_neg c5] at hf
        simp only [Prod.mk.injEq] at hf
        obtain ⟨rfl, rfl, rfl, rfl, rfl, rfl, rfl, rfl⟩ := hf
        go_wp2
        refine bodyPost_ret (v := .agg #[.int .i64 h, .int .i64 v, .int .i64 3, .int .i64 bal, .int .i64 val, .int .i64 m, .int .i64 best, .int .i64 bb]) ?_ rfl ?_
        · refine res8 (by rfl) ?_
          with_reducible refine put8z ?_
          repeat (first | (with_reducible exact BRA.out) | (with_reducible refine blk_far ?_ ?ne _; case ne => ((try dsimp only); omega)))
        · exact ⟨rfl, by repeat (first | (with_reducible exact HBC.out) | (with_reducible refine below_set ?_ ?ne; case ne => ((try dsimp only); omega)))⟩
    · have hf := HF.out
      rw [if_pos c4] at hf
      obtain ⟨⟨x0, x1, x2, x3⟩, _⟩ := own_cells HR.out m m0 (by omega)
      have hd := pxOf_f (x := rd_T53 l m) (v := v)
      generalize rd_T53 l m = bq at x0 x1 x2 x3 hd hf
      generalize pxOf bq v = dq at hd hf
      obtain ⟨b0, b1, b2, b3⟩ := bq
      obtain ⟨d0, d1, d2, d3⟩ := dq
      dsimp only at x0 x1 x2 x3 hd
      have HOF := Aside0.mk (fun W => impl_Block_of.calls b0 b1 b2 b3 v d0 d1 d2 d3 W hd)
      clear hd
      have HF := Aside0.mk hf
      clear hf
      have q0 : (0 ≤ m) = True := eq_true m0
      have q1 : (m < (4 : Int)) = True := eq_true c4
      have S0 := Aside0.mk (And.intro (cell_later HB4 x0) (And.intro (cell_later HB4 x1) (And.intro (cell_later HB4 x2) (And.intro (cell_later HB4 x3) (And.intro ((blk_cell BP 1).trans (rfl : _ = some (Value.int .i64 v))) ((blk_cell BP 5).trans (rfl : _ = some (Value.int .i64 m))))))))
      clear x0 x1 x2 x3
      have p5_ := (blk_cell BP 5).trans (rfl : _ = some (Value.int .i64 m))
      go_upto_region 20 with fail
      clear p5_
      go_cut [9] (fun v9 wx => ∃ gb, v9 = .pointer (some ⟨gb, 0, none⟩) ∧ wx.heap[gb]? = some (.cells #[.int .i64 d0, .int .i64 d1, .int .i64 d2, .int .i64 d3] 53 (0, 0)) ∧ W4.heap.size ≤ gb ∧ Below W4.heap.size W4 wx)
      case first =>
        go_region_held3 (fun w' => w'.cell? ⟨g, m.toNat * 4, none⟩ = some (.int .i64 b0) ∧ w'.cell? ⟨g, m.toNat * 4 + 1, none⟩ = some (.int .i64 b1) ∧ w'.cell? ⟨g, m.toNat * 4 + 2, none⟩ = some (.int .i64 b2) ∧ w'.cell? ⟨g, m.toNat * 4 + 3, none⟩ = some (.int .i64 b3) ∧ w'.cell? ⟨w.heap.size, 1, none⟩ = some (.int .i64 v) ∧ w'.cell? ⟨w.heap.size, 5, none⟩ = some (.int .i64 m))
          (first | exact S0.out | (refine six_step S0.out ?_; (repeat (first | (with_reducible exact Below.refl _ _) | exact HBC.out | (with_reducible apply Below.drew) | (with_reducible apply below_alloc) | (with_reducible refine below_set ?_ (Nat.le_refl _))))))
          (first | (go_at_call 67; refine (HOF.out _).mono ?_; rintro e w' ⟨rfl, hb⟩; (first | (have HBC : Aside0 (Below W4.heap.size W4 w') := ⟨below_first hb⟩) | (have HBC : Aside0 (Below W4.heap.size W4 w') := ⟨below_last hb⟩)); (try (have bz : w'.heap[W4.heap.size]? = _ := blk_below (blk_drew (blk_new W4 _)) hb; have z0 := (blk_cell bz 0).trans (rfl : _ = some (Value.int .i64 0)); have z1 := (blk_cell bz 1).trans (rfl : _ = some (Value.int .i64 0)); have z2 := (blk_cell bz 2).trans (rfl : _ = some (Value.int .i64 0)); have z3 := (blk_cell bz 3).trans (rfl : _ = some (Value.int .i64 0)); have t0 := blk_frozen bz 0; have t1 := blk_frozen bz 1; have t2 := blk_frozen bz 2; have t3 := blk_frozen bz 3; have BZ := Aside0.mk bz; clear bz)); clear hb))
        all_goals (go_wp2_with fail; go_meet)
        · exact ⟨_, rfl, blk_new _ _, HBC.out.size, below_alloc HBC.out _⟩
        · refine ⟨_, rfl, blk_put (cs := #[.int .i64 d0, .int .i64 d1, .int .i64 d2, .int .i64 0]) (blk_put (cs := #[.int .i64 d0, .int .i64 d1, .int .i64 0, .int .i64 0]) (blk_put (cs := #[.int .i64 d0, .int .i64 0, .int .i64 0, .int .i64 0]) (blk_put BZ.out 0 _ rfl) 1 _ rfl) 2 _ rfl) 3 _ rfl, Nat.le_refl _, below_set (below_set (below_set (below_set HBC.out (Nat.le_refl _)) (Nat.le_refl _)) (Nat.le_refl _)) (Nat.le_refl _)⟩
      case rest =>
        obtain ⟨gb, rfl, hgb, hge, hbc⟩ := hcut
        have BPc := blk_below BP hbc
        have BRc := blk_below BR hbc
        have BAc := blk_below BA hbc
        clear BP BR BA S0
        have n0 : gb ≠ w.heap.size := by have := HS4.out; omega
        have n1 : gb ≠ w.heap.size + 1 := by have := HS4.out; omega
        have n2 : gb ≠ w.heap.size + 1 + 1 := by have := HS4.out; omega
        have GE : w.heap.size ≤ gb := by have := HS4.out; omega
        have g0 := (blk_cell hgb 0).trans (rfl : _ = some (Value.int .i64 d0))
        have g1 := (blk_cell hgb 1).trans (rfl : _ = some (Value.int .i64 d1))
        have g2 := (blk_cell hgb 2).trans (rfl : _ = some (Value.int .i64 d2))
        have g3 := (blk_cell hgb 3).trans (rfl : _ = some (Value.int .i64 d3))
        have p0 := (blk_cell BPc 0).trans (rfl : _ = some (Value.int .i64 h))
        have pf0 := blk_frozen BPc 0
        have r0_ := (blk_cell BRc 0).trans (rfl : _ = some (Value.int .i64 0))
        have rf0 := blk_frozen BRc 0
        have a0 := (blk_cell BAc 0).trans (rfl : _ = some (Value.int .i64 h))
        have p1 := (blk_cell BPc 1).trans (rfl : _ = some (Value.int .i64 v))
        have pf1 := blk_frozen BPc 1
        have r1_ := (blk_cell BRc 1).trans (rfl : _ = some (Value.int .i64 0))
        have rf1 := blk_frozen BRc 1
        have a1 := (blk_cell BAc 1).trans (rfl : _ = some (Value.int .i64 v))
        have p2 := (blk_cell BPc 2).trans (rfl : _ = some (Value.int .i64 2))
        have pf2 := blk_frozen BPc 2
        have r2_ := (blk_cell BRc 2).trans (rfl : _ = some (Value.int .i64 0))
        have rf2 := blk_frozen BRc 2
        have a2 := (blk_cell BAc 2).trans (rfl : _ = some (Value.int .i64 6))
        have p3 := (blk_cell BPc 3).trans (rfl : _ = some (Value.int .i64 bal))
        have pf3 := blk_frozen BPc 3
        have r3_ := (blk_cell BRc 3).trans (rfl : _ = some (Value.int .i64 0))
        have rf3 := blk_frozen BRc 3
        have a3 := (blk_cell BAc 3).trans (rfl : _ = some (Value.int .i64 bal))
        have p4 := (blk_cell BPc 4).trans (rfl : _ = some (Value.int .i64 val))
        have pf4 := blk_frozen BPc 4
        have r4_ := (blk_cell BRc 4).trans (rfl : _ = some (Value.int .i64 0))
        have rf4 := blk_frozen BRc 4
        have a4 := (blk_cell BAc 4).trans (rfl : _ = some (Value.int .i64 val))
        have p5 := (blk_cell BPc 5).trans (rfl : _ = some (Value.int .i64 m))
        have pf5 := blk_frozen BPc 5
        have r5_ := (blk_cell BRc 5).trans (rfl : _ = some (Value.int .i64 0))
        have rf5 := blk_frozen BRc 5
        have a5 := (blk_cell BAc 5).trans (rfl : _ = some (Value.int .i64 m))
        have p6 := (blk_cell BPc 6).trans (rfl : _ = some (Value.int .i64 best))
        have pf6 := blk_frozen BPc 6
        have r6_ := (blk_cell BRc 6).trans (rfl : _ = some (Value.int .i64 0))
        have rf6 := blk_frozen BRc 6
        have a6 := (blk_cell BAc 6).trans (rfl : _ = some (Value.int .i64 best))
        have p7 := (blk_cell BPc 7).trans (rfl : _ = some (Value.int .i64 bb))
        have pf7 := blk_frozen BPc 7
        have r7_ := (blk_cell BRc 7).trans (rfl : _ = some (Value.int .i64 0))
        have rf7 := blk_frozen BRc 7
        have a7 := (blk_cell BAc 7).trans (rfl : _ = some (Value.int .i64 bb))
        have HBC := Aside0.mk (below_step HB4 hbc)
        have BRA := Aside0.mk BRc
        have BPA := Aside0.mk BPc
        clear hgb BPc BRc BAc hbc hge HB4
        have hf := HF.out
        unfold pxLook at hf
        dsimp only at hf
        by_cases e1 : v < d0 ∨ bal < d1
        · rw [if_pos e1] at hf
          simp only [Prod.mk.injEq] at hf
          obtain ⟨rfl, rfl, rfl, rfl, rfl, rfl, rfl, rfl⟩ := hf
          by_cases e0 : v < d0
          · clear e1
            go_wp2
            refine bodyPost_ret (v := .agg #[.int .i64 h, .int .i64 v, .int .i64 6, .int .i64 bal, .int .i64 val, .int .i64 m, .int .i64 best, .int .i64 bb]) ?_ rfl ?_
            · refine res8 (by rfl) ?_
              with_reducible refine put8z ?_
              repeat (first | (with_reducible exact BRA.out) | (with_reducible refine blk_far ?_ ?ne _; case ne => ((try dsimp only); omega)))
            · exact ⟨rfl, by repeat (first | (with_reducible exact HBC.out) | (with_reducible refine below_set ?_ ?ne; case ne => ((try dsimp only); omega)))⟩
          · have e2 : bal < d1 := e1.resolve_left e0
            clear e1
            go_wp2
            refine bodyPost_ret (v := .agg #[.int .i64 h, .int .i64 v, .int .i64 6, .int .i64 bal, .int .i64 val, .int .i64 m, .int .i64 best, .int .i64 bb]) ?_ rfl ?_
            · refine res8 (by rfl) ?_
              with_reducible refine put8z ?_
              repeat (first | (with_reducible exact BRA.out) | (with_reducible refine blk_far ?_ ?ne _; case ne => ((try dsimp only); omega)))
            · exact ⟨rfl, by repeat (first | (with_reducible exact HBC.out) | (with_reducible refine below_set ?_ ?ne; case ne => ((try dsimp only); omega)))⟩
        rw [if_neg e1] at hf
        have e0 : ¬ v < d0 := fun x => e1 (.inl x)
        have e2 : ¬ bal < d1 := fun x => e1 (.inr x)
        clear e1
        obtain ⟨B, hB⟩ : ∃ B, (if bb < d2 then d3 else best) = B := ⟨_, rfl⟩
        obtain ⟨C, hC⟩ : ∃ C, (if bb < d2 then d2 else bb) = C := ⟨_, rfl⟩
        obtain ⟨k, hk⟩ : ∃ k, pxSkip h (m + 1) = k := ⟨_, rfl⟩
        have hf2 : pxFin h v 2 bal val k B C = (r1, r2, r3, r4, r5, r6, r7, r8) := by
          rw [← hB, ← hC, ← hk]
          by_cases e3 : bb < d2
          · rw [if_pos ⟨rfl, e3⟩] at hf; rw [if_pos e3, if_pos e3]; exact hf
          · rw [if_neg (fun x => e3 x.2)] at hf; rw [if_neg e3, if_neg e3]; exact hf
        have HF2 := Aside0.mk hf2
        have HK := Aside0.mk hk
        have HBB := Aside0.mk hB
        have HCC := Aside0.mk hC
        clear hf hf2 hk hB hC HF
        go_upto_if 128 with fail
        go_cut [] (fun wx => wx.heap[w.heap.size]? = some (.cells #[.int .i64 h, .int .i64 v, .int .i64 2, .int .i64 bal, .int .i64 val, .int .i64 m, .int .i64 B, .int .i64 C] 26 (0, 0)) ∧ wx.heap[w.heap.size + 1]? = some (.cells #[.int .i64 0, .int .i64 0, .int .i64 0, .int .i64 0, .int .i64 0, .int .i64 0, .int .i64 0, .int .i64 0] 26 (0, 0)) ∧ Below w.heap.size w wx)
        case first =>
          have hB := HBB.out
          have hC := HCC.out
          by_cases e3 : bb < d2
          · rw [if_pos e3] at hB hC
            subst hB
            subst hC
            go_wp2
            go_region
            go_wp2_with fail
            go_meet
            refine ⟨?_, ?_, ?_⟩
            · exact (blk_put (cs := #[.int .i64 h, .int .i64 v, .int .i64 2, .int .i64 bal, .int .i64 val, .int .i64 m, .int .i64 d3, .int .i64 bb]) (blk_put (cs := #[.int .i64 h, .int .i64 v, .int .i64 2, .int .i64 bal, .int .i64 val, .int .i64 m, .int .i64 best, .int .i64 bb]) BPA.out 6 _ rfl) 7 _ rfl)
            · exact (blk_far (blk_far BRA.out (by (try dsimp only); omega) _) (by (try dsimp only); omega) _)
            · repeat (first | (with_reducible exact HBC.out) | (with_reducible refine Below.drew ?_) | (with_reducible refine below_set ?_ ?ne; case ne => ((try dsimp only); omega)))
          · rw [if_neg e3] at hB hC
            subst hB
            subst hC
            go_wp2
            go_meet
            refine ⟨?_, ?_, ?_⟩
            · exact BPA.out
            · exact BRA.out
            · repeat (first | (with_reducible exact HBC.out) | (with_reducible refine Below.drew ?_) | (with_reducible refine below_set ?_ ?ne; case ne => ((try dsimp only); omega)))
        case rest =>
          obtain ⟨hbp, hbr, hbc⟩ := hcut
          clear g0 g1 g2 g3 e0 e2 HBB HCC BPA BRA HBC p0 pf0 r0_ rf0 a0 p1 pf1 r1_ rf1 a1 p2 pf2 r2_ rf2 a2 p3 pf3 r3_ rf3 a3 p4 pf4 r4_ rf4 a4 p5 pf5 r5_ rf5 a5 p6 pf6 r6_ rf6 a6 p7 pf7 r7_ rf7 a7
          have p0 := (blk_cell hbp 0).trans (rfl : _ = some (Value.int .i64 h))
          have pf0 := blk_frozen hbp 0
          have r0_ := (blk_cell hbr 0).trans (rfl : _ = some (Value.int .i64 0))
          have rf0 := blk_frozen hbr 0
          have p1 := (blk_cell hbp 1).trans (rfl : _ = some (Value.int .i64 v))
          have pf1 := blk_frozen hbp 1
          have r1_ := (blk_cell hbr 1).trans (rfl : _ = some (Value.int .i64 0))
          have rf1 := blk_frozen hbr 1
          have p2 := (blk_cell hbp 2).trans (rfl : _ = some (Value.int .i64 2))
          have pf2 := blk_frozen hbp 2
          have r2_ := (blk_cell hbr 2).trans (rfl : _ = some (Value.int .i64 0))
          have rf2 := blk_frozen hbr 2
          have p3 := (blk_cell hbp 3).trans (rfl : _ = some (Value.int .i64 bal))
          have pf3 := blk_frozen hbp 3
          have r3_ := (blk_cell hbr 3).trans (rfl : _ = some (Value.int .i64 0))
          have rf3 := blk_frozen hbr 3
          have p4 := (blk_cell hbp 4).trans (rfl : _ = some (Value.int .i64 val))
          have pf4 := blk_frozen hbp 4
          have r4_ := (blk_cell hbr 4).trans (rfl : _ = some (Value.int .i64 0))
          have rf4 := blk_frozen hbr 4
          have p5 := (blk_cell hbp 5).trans (rfl : _ = some (Value.int .i64 m))
          have pf5 := blk_frozen hbp 5
          have r5_ := (blk_cell hbr 5).trans (rfl : _ = some (Value.int .i64 0))
          have rf5 := blk_frozen hbr 5
          have p6 := (blk_cell hbp 6).trans (rfl : _ = some (Value.int .i64 B))
          have pf6 := blk_frozen hbp 6
          have r6_ := (blk_cell hbr 6).trans (rfl : _ = some (Value.int .i64 0))
          have rf6 := blk_frozen hbr 6
          have p7 := (blk_cell hbp 7).trans (rfl : _ = some (Value.int .i64 C))
          have pf7 := blk_frozen hbp 7
          have r7_ := (blk_cell hbr 7).trans (rfl : _ = some (Value.int .i64 0))
          have rf7 := blk_frozen hbr 7
          have BPA := Aside0.mk hbp
          have BRA := Aside0.mk hbr
          have HBC := Aside0.mk hbc
          clear hbp hbr hbc
          go_upto_if 143 with fail
          go_cut [] (fun wx => wx.heap[w.heap.size]? = some (.cells #[.int .i64 h, .int .i64 v, .int .i64 2, .int .i64 bal, .int .i64 val, .int .i64 k, .int .i64 B, .int .i64 C] 26 (0, 0)) ∧ wx.heap[w.heap.size + 1]? = some (.cells #[.int .i64 0, .int .i64 0, .int .i64 0, .int .i64 0, .int .i64 0, .int .i64 0, .int .i64 0, .int .i64 0] 26 (0, 0)) ∧ Below w.heap.size w wx)
          case first =>
            have hk := HK.out
            unfold pxSkip at hk
            by_cases e5 : m + 1 = h
            · rw [if_pos e5, e5] at hk
              subst hk
              go_wp2
              go_meet
              refine ⟨?_, ?_, ?_⟩
              · exact (blk_put (cs := #[.int .i64 h, .int .i64 v, .int .i64 2, .int .i64 bal, .int .i64 val, .int .i64 h, .int .i64 B, .int .i64 C]) (blk_put (cs := #[.int .i64 h, .int .i64 v, .int .i64 2, .int .i64 bal, .int .i64 val, .int .i64 m, .int .i64 B, .int .i64 C]) BPA.out 5 _ rfl) 5 _ rfl)
              · exact (blk_far (blk_far BRA.out (by (try dsimp only); omega) _) (by (try dsimp only); omega) _)
              · repeat (first | (with_reducible exact HBC.out) | (with_reducible refine Below.drew ?_) | (with_reducible refine below_set ?_ ?ne; case ne => ((try dsimp only); omega)))
            · rw [if_neg e5] at hk
              subst hk
              go_wp2
              go_meet
              refine ⟨?_, ?_, ?_⟩
              · exact (blk_put (cs := #[.int .i64 h, .int .i64 v, .int .i64 2, .int .i64 bal, .int .i64 val, .int .i64 m, .int .i64 B, .int .i64 C]) BPA.out 5 _ rfl)
              · exact (blk_far BRA.out (by (try dsimp only); omega) _)
              · repeat (first | (with_reducible exact HBC.out) | (with_reducible refine Below.drew ?_) | (with_reducible refine below_set ?_ ?ne; case ne => ((try dsimp only); omega)))
          case rest =>
            obtain ⟨hbp, hbr, hbc⟩ := hcut
            clear BPA BRA HBC HK p0 pf0 r0_ rf0 p1 pf1 r1_ rf1 p2 pf2 r2_ rf2 p3 pf3 r3_ rf3 p4 pf4 r4_ rf4 p5 pf5 r5_ rf5 p6 pf6 r6_ rf6 p7 pf7 r7_ rf7
            have p0 := (blk_cell hbp 0).trans (rfl : _ = some (Value.int .i64 h))
            have pf0 := blk_frozen hbp 0
            have r0_ := (blk_cell hbr 0).trans (rfl : _ = some (Value.int .i64 0))
            have rf0 := blk_frozen hbr 0
            have p1 := (blk_cell hbp 1).trans (rfl : _ = some (Value.int .i64 v))
            have pf1 := blk_frozen hbp 1
            have r1_ := (blk_cell hbr 1).trans (rfl : _ = some (Value.int .i64 0))
            have rf1 := blk_frozen hbr 1
            have p2 := (blk_cell hbp 2).trans (rfl : _ = some (Value.int .i64 2))
            have pf2 := blk_frozen hbp 2
            have r2_ := (blk_cell hbr 2).trans (rfl : _ = some (Value.int .i64 0))
            have rf2 := blk_frozen hbr 2
            have p3 := (blk_cell hbp 3).trans (rfl : _ = some (Value.int .i64 bal))
            have pf3 := blk_frozen hbp 3
            have r3_ := (blk_cell hbr 3).trans (rfl : _ = some (Value.int .i64 0))
            have rf3 := blk_frozen hbr 3
            have p4 := (blk_cell hbp 4).trans (rfl : _ = some (Value.int .i64 val))
            have pf4 := blk_frozen hbp 4
            have r4_ := (blk_cell hbr 4).trans (rfl : _ = some (Value.int .i64 0))
            have rf4 := blk_frozen hbr 4
            have p5 := (blk_cell hbp 5).trans (rfl : _ = some (Value.int .i64 k))
            have pf5 := blk_frozen hbp 5
            have r5_ := (blk_cell hbr 5).trans (rfl : _ = some (Value.int .i64 0))
            have rf5 := blk_frozen hbr 5
            have p6 := (blk_cell hbp 6).trans (rfl : _ = some (Value.int .i64 B))
            have pf6 := blk_frozen hbp 6
            have r6_ := (blk_cell hbr 6).trans (rfl : _ = some (Value.int .i64 0))
            have rf6 := blk_frozen hbr 6
            have p7 := (blk_cell hbp 7).trans (rfl : _ = some (Value.int .i64 C))
            have pf7 := blk_frozen hbp 7
            have r7_ := (blk_cell hbr 7).trans (rfl : _ = some (Value.int .i64 0))
            have rf7 := blk_frozen hbr 7
            have BPA := Aside0.mk hbp
            have BRA := Aside0.mk hbr
            have HBC := Aside0.mk hbc
            clear hbp hbr hbc
            have hf := HF2.out
            clear HF2
            unfold pxFin at hf
            by_cases e6 : k < 4
            · rw [if_pos e6] at hf
              simp only [Prod.mk.injEq] at hf
              obtain ⟨rfl, rfl, rfl, rfl, rfl, rfl, rfl, rfl⟩ := hf
              go_wp2
              refine bodyPost_ret (v := .agg #[.int .i64 h, .int .i64 v, .int .i64 2, .int .i64 bal, .int .i64 val, .int .i64 k, .int .i64 B, .int .i64 C]) ?_ rfl ?_
              · refine res8 (by rfl) ?_
                with_reducible refine put8z ?_
                repeat (first | (with_reducible exact BRA.out) | (with_reducible refine blk_far ?_ ?ne _; case ne => ((try dsimp only); omega)))
              · exact ⟨rfl, by repeat (first | (with_reducible exact HBC.out) | (with_reducible refine below_set ?_ ?ne; case ne => ((try dsimp only); omega)))⟩
            · rw [if_neg e6, if_neg (by decide)] at hf
              by_cases e7 : 0 < C
              · rw [if_pos e7] at hf
                simp only [Prod.mk.injEq] at hf
                obtain ⟨rfl, rfl, rfl, rfl, rfl, rfl, rfl, rfl⟩ := hf
                go_wp2
                refine bodyPost_ret (v := .agg #[.int .i64 h, .int .i64 v, .int .i64 3, .int .i64 bal, .int .i64 B, .int .i64 k, .int .i64 B, .int .i64 C]) ?_ rfl ?_
                · refine res8 (by rfl) ?_
                  with_reducible refine put8z ?_
                  repeat (first | (with_reducible exact BRA.out) | (with_reducible refine blk_far ?_ ?ne _; case ne => ((try dsimp only); omega)))
                · exact ⟨rfl, by repeat (first | (with_reducible exact HBC.out) | (with_reducible refine below_set ?_ ?ne; case ne => ((try dsimp only); omega)))⟩
              · rw [if_neg e7] at hf
                simp only [Prod.mk.injEq] at hf
                obtain ⟨rfl, rfl, rfl, rfl, rfl, rfl, rfl, rfl⟩ := hf
                go_wp2
                refine bodyPost_ret (v := .agg #[.int .i64 h, .int .i64 v, .int .i64 3, .int .i64 bal, .int .i64 val, .int .i64 k, .int .i64 B, .int .i64 C]) ?_ rfl ?_
                · refine res8 (by rfl) ?_
                  with_reducible refine put8z ?_
                  repeat (first | (with_reducible exact BRA.out) | (with_reducible refine blk_far ?_ ?ne _; case ne => ((try dsimp only); omega)))
                · exact ⟨rfl, by repeat (first | (with_reducible exact HBC.out) | (with_reducible refine below_set ?_ ?ne; case ne => ((try dsimp only); omega)))⟩
set_option maxRecDepth 100000 in
set_option maxHeartbeats 16000000 in
theorem step_4 (h v bal val nx best bb : Int) (r1 r2 r3 r4 r5 r6 r7 r8 : Int) (base g cap : Nat) (ok : Nat → Prop) (l : List S53) (w : World) (hR : Kd.R k53 53 w base ok (.slice (some ⟨g, 0, none⟩) 4 cap) l) (h0 : 0 ≤ nx) (h4 : nx ≤ 4)
    (hf : pxRead h v 4 bal val nx best bb l = (r1, r2, r3, r4, r5, r6, r7, r8)) :
    Calls Try.prog 44 #[.agg #[.int .i64 h, .int .i64 v, .int .i64 4, .int .i64 bal, .int .i64 val, .int .i64 nx, .int .i64 best, .int .i64 bb], .slice (some ⟨g, 0, none⟩) 4 cap] w fun e w' => e = .returned (.agg #[.int .i64 r1, .int .i64 r2, .int .i64 r3, .int .i64 r4, .int .i64 r5, .int .i64 r6, .int .i64 r7, .int .i64 r8]) ∧ Below w.heap.size w w' := by
  have hu53 := Try.underlying53
  have hu26 := Try.underlying26
  have HR := Aside0.mk hR
  clear hR
  unfold pxRead at hf
  obtain ⟨m, hm⟩ : ∃ m, pxSkip h nx = m := ⟨_, rfl⟩
  have m0 : 0 ≤ m := by rw [← hm]; unfold pxSkip; split <;> omega
  have m4 : m ≤ 5 := by rw [← hm]; unfold pxSkip; split <;> omega
  rw [hm] at hf
  have HF := Aside0.mk hf
  clear hf
  go_enter Try.func44, Try.ntmps44
  go_wp2
  go_region
  go_upto_if 88 with fail
  go_cut [] (fun wx => wx = (((w.alloc (.cells #[.int .i64 h, .int .i64 v, .int .i64 4, .int .i64 bal, .int .i64 val, .int .i64 m, .int .i64 best, .int .i64 bb] 26)).alloc (.cells #[.int .i64 0, .int .i64 0, .int .i64 0, .int .i64 0, .int .i64 0, .int .i64 0, .int .i64 0, .int .i64 0] 26)).alloc (.cells #[.int .i64 h, .int .i64 v, .int .i64 6, .int .i64 bal, .int .i64 val, .int .i64 m, .int .i64 best, .int .i64 bb] 26)).drew)
  case first =>
    unfold pxSkip at hm
    by_cases c0 : nx = h
    · rw [if_pos c0] at hm
      subst hm
      go_wp2
      go_meet
      first | rfl | (simp only [c0])
    · rw [if_neg c0] at hm
      subst hm
      go_wp2
      go_meet
      rfl
  case rest =>
    subst hcut
    clear hm h0 h4
    have HB4 := three_below w (.cells #[.int .i64 h, .int .i64 v, .int .i64 4, .int .i64 bal, .int .i64 val, .int .i64 m, .int .i64 best, .int .i64 bb] 26) (.cells #[.int .i64 0, .int .i64 0, .int .i64 0, .int .i64 0, .int .i64 0, .int .i64 0, .int .i64 0, .int .i64 0] 26) (.cells #[.int .i64 h, .int .i64 v, .int .i64 6, .int .i64 bal, .int .i64 val, .int .i64 m, .int .i64 best, .int .i64 bb] 26)
    have hs4 := three_size w (.cells #[.int .i64 h, .int .i64 v, .int .i64 4, .int .i64 bal, .int .i64 val, .int .i64 m, .int .i64 best, .int .i64 bb] 26) (.cells #[.int .i64 0, .int .i64 0, .int .i64 0, .int .i64 0, .int .i64 0, .int .i64 0, .int .i64 0, .int .i64 0] 26) (.cells #[.int .i64 h, .int .i64 v, .int .i64 6, .int .i64 bal, .int .i64 val, .int .i64 m, .int .i64 best, .int .i64 bb] 26)
    have BP := three_first w (.cells #[.int .i64 h, .int .i64 v, .int .i64 4, .int .i64 bal, .int .i64 val, .int .i64 m, .int .i64 best, .int .i64 bb] 26) (.cells #[.int .i64 0, .int .i64 0, .int .i64 0, .int .i64 0, .int .i64 0, .int .i64 0, .int .i64 0, .int .i64 0] 26) (.cells #[.int .i64 h, .int .i64 v, .int .i64 6, .int .i64 bal, .int .i64 val, .int .i64 m, .int .i64 best, .int .i64 bb] 26)
    have BR := three_second w (.cells #[.int .i64 h, .int .i64 v, .int .i64 4, .int .i64 bal, .int .i64 val, .int .i64 m, .int .i64 best, .int .i64 bb] 26) (.cells #[.int .i64 0, .int .i64 0, .int .i64 0, .int .i64 0, .int .i64 0, .int .i64 0, .int .i64 0, .int .i64 0] 26) (.cells #[.int .i64 h, .int .i64 v, .int .i64 6, .int .i64 bal, .int .i64 val, .int .i64 m, .int .i64 best, .int .i64 bb] 26)
    have BA := three_third w (.cells #[.int .i64 h, .int .i64 v, .int .i64 4, .int .i64 bal, .int .i64 val, .int .i64 m, .int .i64 best, .int .i64 bb] 26) (.cells #[.int .i64 0, .int .i64 0, .int .i64 0, .int .i64 0, .int .i64 0, .int .i64 0, .int .i64 0, .int .i64 0] 26) (.cells #[.int .i64 h, .int .i64 v, .int .i64 6, .int .i64 bal, .int .i64 val, .int .i64 m, .int .i64 best, .int .i64 bb] 26)
    generalize (((w.alloc (.cells #[.int .i64 h, .int .i64 v, .int .i64 4, .int .i64 bal, .int .i64 val, .int .i64 m, .int .i64 best, .int .i64 bb] 26)).alloc (.cells #[.int .i64 0, .int .i64 0, .int .i64 0, .int .i64 0, .int .i64 0, .int .i64 0, .int .i64 0, .int .i64 0] 26)).alloc (.cells #[.int .i64 h, .int .i64 v, .int .i64 6, .int .i64 bal, .int .i64 val, .int .i64 m, .int .i64 best, .int .i64 bb] 26)).drew = W4 at HB4 hs4 BP BR BA ⊢
    have HS4 := Aside0.mk hs4
    clear hs4
    by_cases c4 : m < 4
    rotate_left
    · have hf := HF.out
      rw [if_neg c4] at hf
      unfold pxFin at hf
      rw [if_neg c4] at hf
      have p0 := (blk_cell BP 0).trans (rfl : _ = some (Value.int .i64 h))
      have pf0 := blk_frozen BP 0
      have r0_ := (blk_cell BR 0).trans (rfl : _ = some (Value.int .i64 0))
      have rf0 := blk_frozen BR 0
      have p1 := (blk_cell BP 1).trans (rfl : _ = some (Value.int .i64 v))
      have pf1 := blk_frozen BP 1
      have r1_ := (blk_cell BR 1).trans (rfl : _ = some (Value.int .i64 0))
      have rf1 := blk_frozen BR 1
      have p2 := (blk_cell BP 2).trans (rfl : _ = some (Value.int .i64 4))
      have pf2 := blk_frozen BP 2
      have r2_ := (blk_cell BR 2).trans (rfl : _ = some (Value.int .i64 0))
      have rf2 := blk_frozen BR 2
      have p3 := (blk_cell BP 3).trans (rfl : _ = some (Value.int .i64 bal))
      have pf3 := blk_frozen BP 3
      have r3_ := (blk_cell BR 3).trans (rfl : _ = some (Value.int .i64 0))
      have rf3 := blk_frozen BR 3
      have p4 := (blk_cell BP 4).trans (rfl : _ = some (Value.int .i64 val))
      have pf4 := blk_frozen BP 4
      have r4_ := (blk_cell BR 4).trans (rfl : _ = some (Value.int .i64 0))
      have rf4 := blk_frozen BR 4
      have p5 := (blk_cell BP 5).trans (rfl : _ = some (Value.int .i64 m))
      have pf5 := blk_frozen BP 5
      have r5_ := (blk_cell BR 5).trans (rfl : _ = some (Value.int .i64 0))
      have rf5 := blk_frozen BR 5
      have p6 := (blk_cell BP 6).trans (rfl : _ = some (Value.int .i64 best))
      have pf6 := blk_frozen BP 6
      have r6_ := (blk_cell BR 6).trans (rfl : _ = some (Value.int .i64 0))
      have rf6 := blk_frozen BR 6
      have p7 := (blk_cell BP 7).trans (rfl : _ = some (Value.int .i64 bb))
      have pf7 := blk_frozen BP 7
      have r7_ := (blk_cell BR 7).trans (rfl : _ = some (Value.int .i64 0))
      have rf7 := blk_frozen BR 7
      have HBC := Aside0.mk HB4
      have BRA := Aside0.mk BR
      clear BP BR BA HB4
      rw [if_pos rfl] at hf
      simp only [Prod.mk.injEq] at hf
      obtain ⟨rfl, rfl, rfl, rfl, rfl, rfl, rfl, rfl⟩ := hf
      go_wp2
      refine bodyPost_ret (v := .agg #[.int .i64 h, .int .i64 v, .int .i64 5, .int .i64 bal, .int .i64 val, .int .i64 m, .int .i64 best, .int .i64 bb]) ?_ rfl ?_
      · refine res8 (by rfl) ?_
        with_reducible refine put8z ?_
        repeat (first | (with_reducible exact BRA.out) | (with_reducible refine blk_far ?_ ?ne _; case ne => ((try dsimp only); omega)))
      · exact ⟨rfl, by repeat (first | (with_reducible exact HBC.out) | (with_reducible refine below_set ?_ ?ne; case ne => ((try dsimp only); omega)))⟩
    · have hf := HF.out
      rw [if_pos c4] at hf
      obtain ⟨⟨x0, x1, x2, x3⟩, _⟩ := own_cells HR.out m m0 (by omega)
      have hd := pxOf_f (x := rd_T53 l m) (v := v)
      generalize rd_T53 l m = bq at x0 x1 x2 x3 hd hf
      generalize pxOf bq v = dq at hd hf
      obtain ⟨b0, b1, b2, b3⟩ := bq
      obtain ⟨d0, d1, d2, d3⟩ := dq
      dsimp only at x0 x1 x2 x3 hd
      have HOF := Aside0.mk (fun W => impl_Block_of.calls b0 b1 b2 b3 v d0 d1 d2 d3 W hd)
      clear hd
      have HF := Aside0.mk hf
      clear hf
      have q0 : (0 ≤ m) = True := eq_true m0
      have q1 : (m < (4 : Int)) = True := eq_true c4
      have S0 := Aside0.mk (And.intro (cell_later HB4 x0) (And.intro (cell_later HB4 x1) (And.intro (cell_later HB4 x2) (And.intro (cell_later HB4 x3) (And.intro ((blk_cell BP 1).trans (rfl : _ = some (Value.int .i64 v))) ((blk_cell BP 5).trans (rfl : _ = some (Value.int .i64 m))))))))
      clear x0 x1 x2 x3
      have p5_ := (blk_cell BP 5).trans (rfl : _ = some (Value.int .i64 m))
      go_upto_region 20 with fail
      clear p5_
      go_cut [9] (fun v9 wx => ∃ gb, v9 = .pointer (some ⟨gb, 0, none⟩) ∧ wx.heap[gb]? = some (.cells #[.int .i64 d0, .int .i64 d1, .int .i64 d2, .int .i64 d3] 53 (0, 0)) ∧ W4.heap.size ≤ gb ∧ Below W4.heap.size W4 wx)
      case first =>
        go_region_held3 (fun w' => w'.cell? ⟨g, m.toNat * 4, none⟩ = some (.int .i64 b0) ∧ w'.cell? ⟨g, m.toNat * 4 + 1, none⟩ = some (.int .i64 b1) ∧ w'.cell? ⟨g, m.toNat * 4 + 2, none⟩ = some (.int .i64 b2) ∧ w'.cell? ⟨g, m.toNat * 4 + 3, none⟩ = some (.int .i64 b3) ∧ w'.cell? ⟨w.heap.size, 1, none⟩ = some (.int .i64 v) ∧ w'.cell? ⟨w.heap.size, 5, none⟩ = some (.int .i64 m))
          (first | exact S0.out | (refine six_step S0.out ?_; (repeat (first | (with_reducible exact Below.refl _ _) | exact HBC.out | (with_reducible apply Below.drew) | (with_reducible apply below_alloc) | (with_reducible refine below_set ?_ (Nat.le_refl _))))))
          (first | (go_at_call 67; refine (HOF.out _).mono ?_; rintro e w' ⟨rfl, hb⟩; (first | (have HBC : Aside0 (Below W4.heap.size W4 w') := ⟨below_first hb⟩) | (have HBC : Aside0 (Below W4.heap.size W4 w') := ⟨below_last hb⟩)); (try (have bz : w'.heap[W4.heap.size]? = _ := blk_below (blk_drew (blk_new W4 _)) hb; have z0 := (blk_cell bz 0).trans (rfl : _ = some (Value.int .i64 0)); have z1 := (blk_cell bz 1).trans (rfl : _ = some (Value.int .i64 0)); have z2 := (blk_cell bz 2).trans (rfl : _ = some (Value.int .i64 0)); have z3 := (blk_cell bz 3).trans (rfl : _ = some (Value.int .i64 0)); have t0 := blk_frozen bz 0; have t1 := blk_frozen bz 1; have t2 := blk_frozen bz 2; have t3 := blk_frozen bz 3; have BZ := Aside0.mk bz; clear bz)); clear hb))
        all_goals (go_wp2_with fail; go_meet)
        · exact ⟨_, rfl, blk_new _ _, HBC.out.size, below_alloc HBC.out _⟩
        · refine ⟨_, rfl, blk_put (cs := #[.int .i64 d0, .int .i64 d1, .int .i64 d2, .int .i64 0]) (blk_put (cs := #[.int .i64 d0, .int .i64 d1, .int .i64 0, .int .i64 0]) (blk_put (cs := #[.int .i64 d0, .int .i64 0, .int .i64 0, .int .i64 0]) (blk_put BZ.out 0 _ rfl) 1 _ rfl) 2 _ rfl) 3 _ rfl, Nat.le_refl _, below_set (below_set (below_set (below_set HBC.out (Nat.le_refl _)) (Nat.le_refl _)) (Nat.le_refl _)) (Nat.le_refl _)⟩
      case rest =>
        obtain ⟨gb, rfl, hgb, hge, hbc⟩ := hcut
        have BPc := blk_below BP hbc
        have BRc := blk_below BR hbc
        have BAc := blk_below BA hbc
        clear BP BR BA S0
        have n0 : gb ≠ w.heap.size := by have := HS4.out; omega
        have n1 : gb ≠ w.heap.size + 1 := by have := HS4.out; omega
        have n2 : gb ≠ w.heap.size + 1 + 1 := by have := HS4.out; omega
        have GE : w.heap.size ≤ gb := by have := HS4.out; omega
        have g0 := (blk_cell hgb 0).trans (rfl : _ = some (Value.int .i64 d0))
        have g1 := (blk_cell hgb 1).trans (rfl : _ = some (Value.int .i64 d1))
        have g2 := (blk_cell hgb 2).trans (rfl : _ = some (Value.int .i64 d2))
        have g3 := (blk_cell hgb 3).trans (rfl : _ = some (Value.int .i64 d3))
        have p0 := (blk_cell BPc 0).trans (rfl : _ = some (Value.int .i64 h))
        have pf0 := blk_frozen BPc 0
        have r0_ := (blk_cell BRc 0).trans (rfl : _ = some (Value.int .i64 0))
        have rf0 := blk_frozen BRc 0
        have a0 := (blk_cell BAc 0).trans (rfl : _ = some (Value.int .i64 h))
        have p1 := (blk_cell BPc 1).trans (rfl : _ = some (Value.int .i64 v))
        have pf1 := blk_frozen BPc 1
        have r1_ := (blk_cell BRc 1).trans (rfl : _ = some (Value.int .i64 0))
        have rf1 := blk_frozen BRc 1
        have a1 := (blk_cell BAc 1).trans (rfl : _ = some (Value.int .i64 v))
        have p2 := (blk_cell BPc 2).trans (rfl : _ = some (Value.int .i64 4))
        have pf2 := blk_frozen BPc 2
        have r2_ := (blk_cell BRc 2).trans (rfl : _ = some (Value.int .i64 0))
        have rf2 := blk_frozen BRc 2
        have a2 := (blk_cell BAc 2).trans (rfl : _ = some (Value.int .i64 6))
        have p3 := (blk_cell BPc 3).trans (rfl : _ = some (Value.int .i64 bal))
        have pf3 := blk_frozen BPc 3
        have r3_ := (blk_cell BRc 3).trans (rfl : _ = some (Value.int .i64 0))
        have rf3 := blk_frozen BRc 3
        have a3 := (blk_cell BAc 3).trans (rfl : _ = some (Value.int .i64 bal))
        have p4 := (blk_cell BPc 4).trans (rfl : _ = some (Value.int .i64 val))
        have pf4 := blk_frozen BPc 4
        have r4_ := (blk_cell BRc 4).trans (rfl : _ = some (Value.int .i64 0))
        have rf4 := blk_frozen BRc 4
        have a4 := (blk_cell BAc 4).trans (rfl : _ = some (Value.int .i64 val))
        have p5 := (blk_cell BPc 5).trans (rfl : _ = some (Value.int .i64 m))
        have pf5 := blk_frozen BPc 5
        have r5_ := (blk_cell BRc 5).trans (rfl : _ = some (Value.int .i64 0))
        have rf5 := blk_frozen BRc 5
        have a5 := (blk_cell BAc 5).trans (rfl : _ = some (Value.int .i64 m))
        have p6 := (blk_cell BPc 6).trans (rfl : _ = some (Value.int .i64 best))
        have pf6 := blk_frozen BPc 6
        have r6_ := (blk_cell BRc 6).trans (rfl : _ = some (Value.int .i64 0))
        have rf6 := blk_frozen BRc 6
        have a6 := (blk_cell BAc 6).trans (rfl : _ = some (Value.int .i64 best))
        have p7 := (blk_cell BPc 7).trans (rfl : _ = some (Value.int .i64 bb))
        have pf7 := blk_frozen BPc 7
        have r7_ := (blk_cell BRc 7).trans (rfl : _ = some (Value.int .i64 0))
        have rf7 := blk_frozen BRc 7
        have a7 := (blk_cell BAc 7).trans (rfl : _ = some (Value.int .i64 bb))
        have HBC := Aside0.mk (below_step HB4 hbc)
        have BRA := Aside0.mk BRc
        have BPA := Aside0.mk BPc
        clear hgb BPc BRc BAc hbc hge HB4
        have hf := HF.out
        unfold pxLook at hf
        dsimp only at hf
        by_cases e1 : v < d0 ∨ bal < d1
        · rw [if_pos e1] at hf
          simp only [Prod.mk.injEq] at hf
          obtain ⟨rfl, rfl, rfl, rfl, rfl, rfl, rfl, rfl⟩ := hf
          by_cases e0 : v < d0
          · clear e1
            go_wp2
            refine bodyPost_ret (v := .agg #[.int .i64 h, .int .i64 v, .int .i64 6, .int .i64 bal, .int .i64 val, .int .i64 m, .int .i64 best, .int .i64 bb]) ?_ rfl ?_
            · refine res8 (by rfl) ?_
              with_reducible refine put8z ?_
              repeat (first | (with_reducible exact BRA.out) | (with_reducible refine blk_far ?_ ?ne _; case ne => ((try dsimp only); omega)))
            · exact ⟨rfl, by repeat (first | (with_reducible exact HBC.out) | (with_reducible refine below_set ?_ ?ne; case ne => ((try dsimp only); omega)))⟩
          · have e2 : bal < d1 := e1.resolve_left e0
            clear e1
            go_wp2
            refine bodyPost_ret (v := .agg #[.int .i64 h, .int .i64 v, .int .i64 6, .int .i64 bal, .int .i64 val, .int .i64 m, .int .i64 best, .int .i64 bb]) ?_ rfl ?_
            · refine res8 (by rfl) ?_
              with_reducible refine put8z ?_
              repeat (first | (with_reducible exact BRA.out) | (with_reducible refine blk_far ?_ ?ne _; case ne => ((try dsimp only); omega)))
            · exact ⟨rfl, by repeat (first | (with_reducible exact HBC.out) | (with_reducible refine below_set ?_ ?ne; case ne => ((try dsimp only); omega)))⟩
        rw [if_neg e1] at hf
        have e0 : ¬ v < d0 := fun x => e1 (.inl x)
        have e2 : ¬ bal < d1 := fun x => e1 (.inr x)
        clear e1
        rw [if_neg (fun x => absurd x.1 (by decide))] at hf
        unfold pxSkip at hf
        by_cases e5 : m + 1 = h
        · rw [if_pos e5, e5] at hf
          unfold pxFin at hf
          by_cases e6 : h + 1 < 4
          · rw [if_pos e6] at hf
            simp only [Prod.mk.injEq] at hf
            obtain ⟨rfl, rfl, rfl, rfl, rfl, rfl, rfl, rfl⟩ := hf
            go_wp2
            refine bodyPost_ret (v := .agg #[.int .i64 h, .int .i64 v, .int .i64 4, .int .i64 bal, .int .i64 val, .int .i64 (h + 1), .int .i64 best, .int .i64 bb]) ?_ rfl ?_
            · refine res8 (by rfl) ?_
              with_reducible refine put8z ?_
              repeat (first | (with_reducible exact BRA.out) | (with_reducible refine blk_far ?_ ?ne _; case ne => ((try dsimp only); omega)))
            · exact ⟨rfl, by repeat (first | (with_reducible exact HBC.out) | (with_reducible refine below_set ?_ ?ne; case ne => ((try dsimp only); omega)))⟩
          · rw [if_neg e6] at hf
            rw [if_pos rfl] at hf
            simp only [Prod.mk.injEq] at hf
            obtain ⟨rfl, rfl, rfl, rfl, rfl, rfl, rfl, rfl⟩ := hf
            go_wp2
            refine bodyPost_ret (v := .agg #[.int .i64 h, .int .i64 v, .int .i64 5, .int .i64 bal, .int .i64 val, .int .i64 (h + 1), .int .i64 best, .int .i64 bb]) ?_ rfl ?_
            · refine res8 (by rfl) ?_
              with_reducible refine put8z ?_
              repeat (first | (with_reducible exact BRA.out) | (with_reducible refine blk_far ?_ ?ne _; case ne => ((try dsimp only); omega)))
            · exact ⟨rfl, by repeat (first | (with_reducible exact HBC.out) | (with_reducible refine below_set ?_ ?ne; case ne => ((try dsimp only); omega)))⟩
        · rw [if_neg e5] at hf
          unfold pxFin at hf
          by_cases e6 : m + 1 < 4
          · rw [if_pos e6] at hf
            simp only [Prod.mk.injEq] at hf
            obtain ⟨rfl, rfl, rfl, rfl, rfl, rfl, rfl, rfl⟩ := hf
            go_wp2
            refine bodyPost_ret (v := .agg #[.int .i64 h, .int .i64 v, .int .i64 4, .int .i64 bal, .int .i64 val, .int .i64 (m + 1), .int .i64 best, .int .i64 bb]) ?_ rfl ?_
            · refine res8 (by rfl) ?_
              with_reducible refine put8z ?_
              repeat (first | (with_reducible exact BRA.out) | (with_reducible refine blk_far ?_ ?ne _; case ne => ((try dsimp only); omega)))
            · exact ⟨rfl, by repeat (first | (with_reducible exact HBC.out) | (with_reducible refine below_set ?_ ?ne; case ne => ((try dsimp only); omega)))⟩
          · rw [if_neg e6] at hf
            rw [if_pos rfl] at hf
            simp only [Prod.mk.injEq] at hf
            obtain ⟨rfl, rfl, rfl, rfl, rfl, rfl, rfl, rfl⟩ := hf
            go_wp2
            refine bodyPost_ret (v := .agg #[.int .i64 h, .int .i64 v, .int .i64 5, .int .i64 bal, .int .i64 val, .int .i64 (m + 1), .int .i64 best, .int .i64 bb]) ?_ rfl ?_
            · refine res8 (by rfl) ?_
              with_reducible refine put8z ?_
              repeat (first | (with_reducible exact BRA.out) | (with_reducible refine blk_far ?_ ?ne _; case ne => ((try dsimp only); omega)))
            · exact ⟨rfl, by repeat (first | (with_reducible exact HBC.out) | (with_reducible refine below_set ?_ ?ne; case ne => ((try dsimp only); omega)))⟩
end Go.Proofs.Ytlclbdfcniiolaa.Hand
