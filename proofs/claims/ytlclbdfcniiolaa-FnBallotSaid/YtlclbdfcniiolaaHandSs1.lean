/- The reference's step in its writing phases: what it comes to; for every ballot of a host from 0 to 3 and a list of four blocks. -/
import Derived.Test.YtlclbdfcniiolaaHandSsw
import Derived.BigQuiet
import Derived.BigRegion
import Derived.RegionCalls
import Derived.Deep.RegionWith
import Derived.Deep.RegionHeld3
import Derived.Deep.DrawnRows
namespace Go.Proofs.Ytlclbdfcniiolaa.Hand
open Go.RowKit Go.Proofs.YtlclbdfcniiolaaW.PrintWords Go.Proofs.YtlclbdfcniiolaaW.PrintLast Go.Proofs.YtlclbdfcniiolaaW.PrintMore Go.Proofs.Ytlclbdfcniiolaa.Q
set_option linter.unusedVariables false
set_option linter.unusedSimpArgs false
attribute [local go_sem ↓] Go.wp_at_zero Go.wp_at_succ
set_option maxRecDepth 100000 in
set_option maxHeartbeats 16000000 in
theorem lst_1 (h v bal val nx best bb : Int) (r1 r2 r3 r4 r5 r6 r7 r8 : Int) (lr : List S53) (A1 : Option Addr) (c1 : Nat) (l1 : List S53) (w : World) (hr1 : Kd.C k53 w A1 4 l1) (hl : l1.length = 4) (h0 : 0 ≤ h) (h4 : h < 4) (n0 : 0 ≤ nx) (n4 : nx ≤ 4)
    (hf : pxWrite h v 1 bal val nx best bb l1 = (r1, r2, r3, r4, r5, r6, r7, r8, lr)) :
    Calls Try.prog 37 #[.agg #[.int .i64 h, .int .i64 v, .int .i64 1, .int .i64 bal, .int .i64 val, .int .i64 nx, .int .i64 best, .int .i64 bb], .slice A1 4 c1] w fun e w' => ∃ v8_ : Value, e = .returned (.tuple #[.agg #[.int .i64 r1, .int .i64 r2, .int .i64 r3, .int .i64 r4, .int .i64 r5, .int .i64 r6, .int .i64 r7, .int .i64 r8], v8_, .int .i64 0]) ∧ Kd.R k53 53 w' w.heap.size (fun _ => True) v8_ lr ∧ Below w.heap.size w w' := by
  have hu53 := Try.underlying53
  have hu26 := Try.underlying26
  have HF := Aside0.mk hf
  have HL := Aside0.mk hl
  have HN := Aside0.mk (And.intro n0 n4)
  clear hf hl n0 n4
  go_enter Try.func37, Try.ntmps37
  go_upto_region 1 with fail
  have HB0 := two_below w (.cells #[.int .i64 h, .int .i64 v, .int .i64 1, .int .i64 bal, .int .i64 val, .int .i64 nx, .int .i64 best, .int .i64 bb] 26) (.cells #[.int .i64 0, .int .i64 0, .int .i64 0, .int .i64 0, .int .i64 0, .int .i64 0, .int .i64 0, .int .i64 0] 26)
  have hs0 := two_size w (.cells #[.int .i64 h, .int .i64 v, .int .i64 1, .int .i64 bal, .int .i64 val, .int .i64 nx, .int .i64 best, .int .i64 bb] 26) (.cells #[.int .i64 0, .int .i64 0, .int .i64 0, .int .i64 0, .int .i64 0, .int .i64 0, .int .i64 0, .int .i64 0] 26)
  have BP := two_first w (.cells #[.int .i64 h, .int .i64 v, .int .i64 1, .int .i64 bal, .int .i64 val, .int .i64 nx, .int .i64 best, .int .i64 bb] 26) (.cells #[.int .i64 0, .int .i64 0, .int .i64 0, .int .i64 0, .int .i64 0, .int .i64 0, .int .i64 0, .int .i64 0] 26)
  have BR := two_second w (.cells #[.int .i64 h, .int .i64 v, .int .i64 1, .int .i64 bal, .int .i64 val, .int .i64 nx, .int .i64 best, .int .i64 bb] 26) (.cells #[.int .i64 0, .int .i64 0, .int .i64 0, .int .i64 0, .int .i64 0, .int .i64 0, .int .i64 0, .int .i64 0] 26)
  generalize (w.alloc (.cells #[.int .i64 h, .int .i64 v, .int .i64 1, .int .i64 bal, .int .i64 val, .int .i64 nx, .int .i64 best, .int .i64 bb] 26)).alloc (.cells #[.int .i64 0, .int .i64 0, .int .i64 0, .int .i64 0, .int .i64 0, .int .i64 0, .int .i64 0, .int .i64 0] 26) = W0 at HB0 hs0 BP BR ⊢
  have HR0 := Aside0.mk (Kd.C_below hr1 HB0)
  have HS0 := Aside0.mk hs0
  clear hr1 hs0
  go_upto_region 2 with (first | ((with_reducible refine gate_dst (N := 11) rfl ?_); refine Kd.R_lit k53 _ 53 ?hg (N := 11) ?hd (xs := ([] : List S53)) (inner := []) (ok := fun _ => True) (okp := fun _ => True) ?hr ?hp (fun _ hk => hk) trivial (Below.refl _ _) (Nat.le_refl _) (by simp) ?_; (case hd => rfl); (case hg => rfl); (case hr => first | (go_simp; done) | (go_simp; rfl)); (case hp => exact (Reps.none _ _)); intro v1 w1 ho hb hg_ hnew_; clear hg_ hnew_; have HO1 := Aside0.mk ho; have HB1 := Aside0.mk hb; clear ho hb) | ((with_reducible refine gate_builtin (b := .append) (xs := #[.tmp 11, .tmp 12]) rfl ?_); at_builtin; refine Kd.R_append_rows k53 (w0 := W0) W0.heap.size rfl (.tmp 11) (.tmp 12) 27 53 (.agg #[(.int .i64 0), (.int .i64 0), (.int .i64 0), (.int .i64 0)]) 32 rfl Try.underlying27 infoCloneblock rfl (by decide) (by decide) v1 [] l1 _ _ _ (fun _ => True) (fun _ => False) rfl rfl ?aO ?aR (fun _ _ h => h) (fun _ h => h.elim) ?aF ?aB ?aS ?aL ?_; (case aR => exact Kd.C_below HR0.out HB1.out); (case aB => exact HB1.out); (case aF => exact (fun _ _ => trivial)); (case aO => exact HO1.out); (case aS => exact (below_size HB1.out)); (case aL => simp); intro v2 W4 ho hb hg hat; have HO2 := Aside0.mk ho; have HB2 := Aside0.mk hb; clear ho hb hg hat))
  have HO3 : Kd.R k53 53 W4 W0.heap.size (fun _ => True) v2 l1 := HO2.out
  obtain ⟨g, cap, rfl, hbg, hgl, _⟩ := own_form HO3 (by rw [HL.out]; decide)
  rw [HL.out] at HO3 ⊢
  have HR4 := Aside0.mk (own_low HO3 HS0.out)
  have hg2 : w.heap.size + 2 ≤ g := by have := HS0.out; omega
  have BP4 := blk_below BP HB2.out
  have BR4 := blk_below BR HB2.out
  have HB4 := below_step HB0 HB2.out
  have hs4 : w.heap.size + 2 ≤ W4.heap.size := by have := HB2.out.size; have := HS0.out; omega
  clear BP BR HB0 HO1 HB1 HO2 HB2 HO3 HR0 hbg
  have hf := HF.out
  unfold pxWrite at hf
  obtain ⟨⟨x0, x1, x2, x3⟩, _⟩ := own_cells HR4.out h h0 h4
  have hd := pxOf_s (x := rd_T53 l1 h) (v := v)
  have hge := pxOf_ge (x := rd_T53 l1 h) (v := v)
  generalize rd_T53 l1 h = bq at x0 x1 x2 x3 hd hf hge
  generalize pxOf bq v = dq at hd hf hge
  obtain ⟨b0, b1, b2, b3⟩ := bq
  obtain ⟨d0, d1, d2, d3⟩ := dq
  dsimp only at x0 x1 x2 x3 hd hge
  have HOF := Aside0.mk (fun W => spec_l05Of.calls b0 b1 b2 b3 v d0 d1 d2 d3 W hd)
  have HGE := Aside0.mk hge
  clear hd HF hge
  have HF := Aside0.mk hf
  clear hf
  have q0 : (0 ≤ h) = True := eq_true h0
  have q1 : (h < (4 : Int)) = True := eq_true h4
  have S0 := Aside0.mk (And.intro x0 (And.intro x1 (And.intro x2 (And.intro x3 (And.intro ((blk_cell BP4 1).trans (rfl : _ = some (Value.int .i64 v))) ((blk_cell BP4 0).trans (rfl : _ = some (Value.int .i64 h))))))))
  clear x0 x1 x2 x3
  have p2 := (blk_cell BP4 2).trans (rfl : _ = some (Value.int .i64 1))
  go_upto_region 9 with fail
  clear p2
  go_cut [8] (fun v9 wx => ∃ gb, v9 = .pointer (some ⟨gb, 0, none⟩) ∧ wx.heap[gb]? = some (.cells #[.int .i64 d0, .int .i64 d1, .int .i64 d2, .int .i64 d3] 53 (0, 0)) ∧ W4.heap.size ≤ gb ∧ Below W4.heap.size W4 wx)
  case first =>
    go_region_held3 (fun w' => w'.cell? ⟨g, h.toNat * 4, none⟩ = some (.int .i64 b0) ∧ w'.cell? ⟨g, h.toNat * 4 + 1, none⟩ = some (.int .i64 b1) ∧ w'.cell? ⟨g, h.toNat * 4 + 2, none⟩ = some (.int .i64 b2) ∧ w'.cell? ⟨g, h.toNat * 4 + 3, none⟩ = some (.int .i64 b3) ∧ w'.cell? ⟨w.heap.size, 1, none⟩ = some (.int .i64 v) ∧ w'.cell? ⟨w.heap.size, 0, none⟩ = some (.int .i64 h))
      (first | exact S0.out | (refine six_step S0.out ?_; (repeat (first | (with_reducible exact Below.refl _ _) | exact HBC.out | (with_reducible apply Below.drew) | (with_reducible apply below_alloc) | (with_reducible refine below_set ?_ (Nat.le_refl _))))))
      (first | (go_at_call 64; refine (HOF.out _).mono ?_; rintro e w' ⟨rfl, hb⟩; (first | (have HBC : Aside0 (Below W4.heap.size W4 w') := ⟨below_first hb⟩) | (have HBC : Aside0 (Below W4.heap.size W4 w') := ⟨below_last hb⟩)); (try (have bz : w'.heap[W4.heap.size]? = _ := blk_below (blk_drew (blk_new W4 _)) hb; have z0 := (blk_cell bz 0).trans (rfl : _ = some (Value.int .i64 0)); have z1 := (blk_cell bz 1).trans (rfl : _ = some (Value.int .i64 0)); have z2 := (blk_cell bz 2).trans (rfl : _ = some (Value.int .i64 0)); have z3 := (blk_cell bz 3).trans (rfl : _ = some (Value.int .i64 0)); have t0 := blk_frozen bz 0; have t1 := blk_frozen bz 1; have t2 := blk_frozen bz 2; have t3 := blk_frozen bz 3; have BZ := Aside0.mk bz; clear bz)); clear hb))
    all_goals (go_wp2_with fail; go_meet)
    · exact ⟨_, rfl, blk_new _ _, HBC.out.size, below_alloc HBC.out _⟩
    · refine ⟨_, rfl, blk_put (cs := #[.int .i64 d0, .int .i64 d1, .int .i64 d2, .int .i64 0]) (blk_put (cs := #[.int .i64 d0, .int .i64 d1, .int .i64 0, .int .i64 0]) (blk_put (cs := #[.int .i64 d0, .int .i64 0, .int .i64 0, .int .i64 0]) (blk_put BZ.out 0 _ rfl) 1 _ rfl) 2 _ rfl) 3 _ rfl, Nat.le_refl _, below_set (below_set (below_set (below_set HBC.out (Nat.le_refl _)) (Nat.le_refl _)) (Nat.le_refl _)) (Nat.le_refl _)⟩
  case rest =>
    obtain ⟨gb, rfl, hgb, hge, hbc⟩ := hcut
    have BPc := blk_below BP4 hbc
    have BRc := blk_below BR4 hbc
    clear BP4 BR4 S0
    have n0 : gb ≠ w.heap.size := by omega
    have n1 : gb ≠ w.heap.size + 1 := by omega
    have n2 : gb ≠ g := by omega
    have GE : w.heap.size ≤ gb := by omega
    have g0 := (blk_cell hgb 0).trans (rfl : _ = some (Value.int .i64 d0))
    have g1 := (blk_cell hgb 1).trans (rfl : _ = some (Value.int .i64 d1))
    have g2 := (blk_cell hgb 2).trans (rfl : _ = some (Value.int .i64 d2))
    have g3 := (blk_cell hgb 3).trans (rfl : _ = some (Value.int .i64 d3))
    have p0 := (blk_cell BPc 0).trans (rfl : _ = some (Value.int .i64 h))
    have pf0 := blk_frozen BPc 0
    have r0_ := (blk_cell BRc 0).trans (rfl : _ = some (Value.int .i64 0))
    have rf0 := blk_frozen BRc 0
    have p1 := (blk_cell BPc 1).trans (rfl : _ = some (Value.int .i64 v))
    have pf1 := blk_frozen BPc 1
    have r1_ := (blk_cell BRc 1).trans (rfl : _ = some (Value.int .i64 0))
    have rf1 := blk_frozen BRc 1
    have p2 := (blk_cell BPc 2).trans (rfl : _ = some (Value.int .i64 1))
    have pf2 := blk_frozen BPc 2
    have r2_ := (blk_cell BRc 2).trans (rfl : _ = some (Value.int .i64 0))
    have rf2 := blk_frozen BRc 2
    have p3 := (blk_cell BPc 3).trans (rfl : _ = some (Value.int .i64 bal))
    have pf3 := blk_frozen BPc 3
    have r3_ := (blk_cell BRc 3).trans (rfl : _ = some (Value.int .i64 0))
    have rf3 := blk_frozen BRc 3
    have p4 := (blk_cell BPc 4).trans (rfl : _ = some (Value.int .i64 val))
    have pf4 := blk_frozen BPc 4
    have r4_ := (blk_cell BRc 4).trans (rfl : _ = some (Value.int .i64 0))
    have rf4 := blk_frozen BRc 4
    have p5 := (blk_cell BPc 5).trans (rfl : _ = some (Value.int .i64 nx))
    have pf5 := blk_frozen BPc 5
    have r5_ := (blk_cell BRc 5).trans (rfl : _ = some (Value.int .i64 0))
    have rf5 := blk_frozen BRc 5
    have p6 := (blk_cell BPc 6).trans (rfl : _ = some (Value.int .i64 best))
    have pf6 := blk_frozen BPc 6
    have r6_ := (blk_cell BRc 6).trans (rfl : _ = some (Value.int .i64 0))
    have rf6 := blk_frozen BRc 6
    have p7 := (blk_cell BPc 7).trans (rfl : _ = some (Value.int .i64 bb))
    have pf7 := blk_frozen BPc 7
    have r7_ := (blk_cell BRc 7).trans (rfl : _ = some (Value.int .i64 0))
    have rf7 := blk_frozen BRc 7
    have HBC := Aside0.mk (below_step HB4 hbc)
    have BRA := Aside0.mk BRc
    have HRC := Aside0.mk (Kd.R_below HR4.out hbc)
    have BPA := Aside0.mk BPc
    have HGB := Aside0.mk hgb
    clear hgb BPc BRc hbc HB4 HR4
    have hf := HF.out
    unfold pxWriteD at hf
    dsimp only at hf
    rw [if_pos rfl] at hf
    by_cases e1 : v < d0 ∨ bal < d1 ∨ d1 = bal
    · rw [if_pos e1] at hf
      simp only [Prod.mk.injEq] at hf
      obtain ⟨rfl, rfl, rfl, rfl, rfl, rfl, rfl, rfl, rfl⟩ := hf
      by_cases e0 : v < d0
      · clear e1
        go_wp2
        refine bodyPost_ret (v := .tuple #[.agg #[.int .i64 h, .int .i64 v, .int .i64 6, .int .i64 bal, .int .i64 val, .int .i64 nx, .int .i64 best, .int .i64 bb], .slice (some ⟨g, 0, none⟩) 4 cap, .int .i64 0]) ?_ rfl ?_
        · refine resL (by rfl) (by rfl) (by rfl) ?_
          with_reducible refine put8z ?_
          repeat (first | (with_reducible exact BRA.out) | (with_reducible refine blk_far ?_ ?ne _; case ne => ((try dsimp only); omega)))
        · exact ⟨_, rfl, end_read (Kd.R_far HRC.out (fun k hk => by have := hk.1; show k ≠ _; dsimp only; omega) _) (below_set HBC.out (Nat.le_refl _))⟩
      by_cases e2 : bal < d1
      · clear e1
        go_wp2
        refine bodyPost_ret (v := .tuple #[.agg #[.int .i64 h, .int .i64 v, .int .i64 6, .int .i64 bal, .int .i64 val, .int .i64 nx, .int .i64 best, .int .i64 bb], .slice (some ⟨g, 0, none⟩) 4 cap, .int .i64 0]) ?_ rfl ?_
        · refine resL (by rfl) (by rfl) (by rfl) ?_
          with_reducible refine put8z ?_
          repeat (first | (with_reducible exact BRA.out) | (with_reducible refine blk_far ?_ ?ne _; case ne => ((try dsimp only); omega)))
        · exact ⟨_, rfl, end_read (Kd.R_far HRC.out (fun k hk => by have := hk.1; show k ≠ _; dsimp only; omega) _) (below_set HBC.out (Nat.le_refl _))⟩
      have e3 : d1 = bal := (e1.resolve_left e0).resolve_left e2
      clear e1
      go_wp2
      refine bodyPost_ret (v := .tuple #[.agg #[.int .i64 h, .int .i64 v, .int .i64 6, .int .i64 bal, .int .i64 val, .int .i64 nx, .int .i64 best, .int .i64 bb], .slice (some ⟨g, 0, none⟩) 4 cap, .int .i64 0]) ?_ rfl ?_
      · refine resL (by rfl) (by rfl) (by rfl) ?_
        with_reducible refine put8z ?_
        repeat (first | (with_reducible exact BRA.out) | (with_reducible refine blk_far ?_ ?ne _; case ne => ((try dsimp only); omega)))
      · exact ⟨_, rfl, end_read (Kd.R_far HRC.out (fun k hk => by have := hk.1; show k ≠ _; dsimp only; omega) _) (below_set HBC.out (Nat.le_refl _))⟩
    rw [if_neg e1] at hf
    have e0 : ¬ v < d0 := fun x => e1 (.inl x)
    have e2 : ¬ bal < d1 := fun x => e1 (.inr (.inl x))
    have e3 : ¬ d1 = bal := fun x => e1 (.inr (.inr x))
    clear e1
    have e4 : v = d0 := by have := HGE.out; omega
    subst e4
    simp only [Prod.mk.injEq] at hf
    obtain ⟨rfl, rfl, rfl, rfl, rfl, rfl, rfl, rfl, rfl⟩ := hf
    have HW := Aside0.mk (fun W => spec_l05Write.calls h v 1 bal val nx best bb v d1 d2 d3 h v 2 bal val 0 d3 d2 v bal d2 d3 W (by unfold spec_l05Write.f; rw [if_pos rfl]))
    go_upto_region 14 with (go_at_call 65; refine (HW.out _).mono ?_; rintro e W5 ⟨rfl, hb⟩; have HB5 := Aside0.mk hb; clear hb)
    have BP6 := blk_alloc (blk_alloc (blk_below BPA.out HB5.out) (.cells #[.int .i64 h, .int .i64 v, .int .i64 2, .int .i64 bal, .int .i64 val, .int .i64 0, .int .i64 d3, .int .i64 d2] 26)) (.cells #[.int .i64 v, .int .i64 bal, .int .i64 d2, .int .i64 d3] 53)
    have BR6 := blk_alloc (blk_alloc (blk_below BRA.out HB5.out) (.cells #[.int .i64 h, .int .i64 v, .int .i64 2, .int .i64 bal, .int .i64 val, .int .i64 0, .int .i64 d3, .int .i64 d2] 26)) (.cells #[.int .i64 v, .int .i64 bal, .int .i64 d2, .int .i64 d3] 53)
    have BX6 := two_first W5 (.cells #[.int .i64 h, .int .i64 v, .int .i64 2, .int .i64 bal, .int .i64 val, .int .i64 0, .int .i64 d3, .int .i64 d2] 26) (.cells #[.int .i64 v, .int .i64 bal, .int .i64 d2, .int .i64 d3] 53)
    have BO6 := two_second W5 (.cells #[.int .i64 h, .int .i64 v, .int .i64 2, .int .i64 bal, .int .i64 val, .int .i64 0, .int .i64 d3, .int .i64 d2] 26) (.cells #[.int .i64 v, .int .i64 bal, .int .i64 d2, .int .i64 d3] 53)
    have HB6 := below_step (below_step HBC.out HB5.out) (two_below W5 (.cells #[.int .i64 h, .int .i64 v, .int .i64 2, .int .i64 bal, .int .i64 val, .int .i64 0, .int .i64 d3, .int .i64 d2] 26) (.cells #[.int .i64 v, .int .i64 bal, .int .i64 d2, .int .i64 d3] 53))
    have HR6 := Kd.R_below (Kd.R_below HRC.out HB5.out) (two_below W5 (.cells #[.int .i64 h, .int .i64 v, .int .i64 2, .int .i64 bal, .int .i64 val, .int .i64 0, .int .i64 d3, .int .i64 d2] 26) (.cells #[.int .i64 v, .int .i64 bal, .int .i64 d2, .int .i64 d3] 53))
    have hs5 := HB5.out.size
    have hgc := blk_lt HGB.out
    clear p0 pf0 r0_ rf0 p1 pf1 r1_ rf1 p2 pf2 r2_ rf2 p3 pf3 r3_ rf3 p4 pf4 r4_ rf4 p5 pf5 r5_ rf5 p6 pf6 r6_ rf6 p7 pf7 r7_ rf7 g0 g1 g2 g3 e0 e2 e3
    generalize (W5.alloc (.cells #[.int .i64 h, .int .i64 v, .int .i64 2, .int .i64 bal, .int .i64 val, .int .i64 0, .int .i64 d3, .int .i64 d2] 26)).alloc (.cells #[.int .i64 v, .int .i64 bal, .int .i64 d2, .int .i64 d3] 53) = W6 at BP6 BR6 BX6 BO6 HB6 HR6 ⊢
    have p0 := (blk_cell BP6 0).trans (rfl : _ = some (Value.int .i64 h))
    have y0 := (blk_cell BX6 0).trans (rfl : _ = some (Value.int .i64 h))
    have r0_ := (blk_cell BR6 0).trans (rfl : _ = some (Value.int .i64 0))
    have rf0 := blk_frozen BR6 0
    have y1 := (blk_cell BX6 1).trans (rfl : _ = some (Value.int .i64 v))
    have r1_ := (blk_cell BR6 1).trans (rfl : _ = some (Value.int .i64 0))
    have rf1 := blk_frozen BR6 1
    have y2 := (blk_cell BX6 2).trans (rfl : _ = some (Value.int .i64 2))
    have r2_ := (blk_cell BR6 2).trans (rfl : _ = some (Value.int .i64 0))
    have rf2 := blk_frozen BR6 2
    have y3 := (blk_cell BX6 3).trans (rfl : _ = some (Value.int .i64 bal))
    have r3_ := (blk_cell BR6 3).trans (rfl : _ = some (Value.int .i64 0))
    have rf3 := blk_frozen BR6 3
    have y4 := (blk_cell BX6 4).trans (rfl : _ = some (Value.int .i64 val))
    have r4_ := (blk_cell BR6 4).trans (rfl : _ = some (Value.int .i64 0))
    have rf4 := blk_frozen BR6 4
    have y5 := (blk_cell BX6 5).trans (rfl : _ = some (Value.int .i64 0))
    have r5_ := (blk_cell BR6 5).trans (rfl : _ = some (Value.int .i64 0))
    have rf5 := blk_frozen BR6 5
    have y6 := (blk_cell BX6 6).trans (rfl : _ = some (Value.int .i64 d3))
    have r6_ := (blk_cell BR6 6).trans (rfl : _ = some (Value.int .i64 0))
    have rf6 := blk_frozen BR6 6
    have y7 := (blk_cell BX6 7).trans (rfl : _ = some (Value.int .i64 d2))
    have r7_ := (blk_cell BR6 7).trans (rfl : _ = some (Value.int .i64 0))
    have rf7 := blk_frozen BR6 7
    have g0 := (blk_cell BO6 0).trans (rfl : _ = some (Value.int .i64 v))
    have g1 := (blk_cell BO6 1).trans (rfl : _ = some (Value.int .i64 bal))
    have g2 := (blk_cell BO6 2).trans (rfl : _ = some (Value.int .i64 d2))
    have g3 := (blk_cell BO6 3).trans (rfl : _ = some (Value.int .i64 d3))
    obtain ⟨⟨x0, x1, x2, x3⟩, xf0, xf1, xf2, xf3⟩ := own_cells HR6 h h0 h4
    have HRA := Aside0.mk HR6
    have HBA := Aside0.mk HB6
    have BRB := Aside0.mk BR6
    clear HR6 HB6 BP6 BR6 BX6 BO6 BRA
    have ng0 : g ≠ w.heap.size := by omega
    have ng1 : g ≠ w.heap.size + 1 := by omega
    have ng2 : g ≠ W5.heap.size := by omega
    have ng3 : g ≠ W5.heap.size + 1 := by omega
    have nr2 : W5.heap.size ≠ w.heap.size + 1 := by omega
    clear hs5 hgc
    go_wp2
    refine bodyPost_ret (v := .tuple #[.agg #[.int .i64 h, .int .i64 v, .int .i64 2, .int .i64 bal, .int .i64 val, .int .i64 0, .int .i64 d3, .int .i64 d2], .slice (some ⟨g, 0, none⟩) 4 cap, .int .i64 0]) ?_ rfl ?_
    · refine resL (by rfl) (by rfl) (by rfl) ?_
      with_reducible refine put8z ?_
      repeat (first | (with_reducible exact BRB.out) | (with_reducible refine blk_far ?_ ?ne _; case ne => ((try dsimp only); omega)))
    · exact ⟨_, rfl, end_write h ⟨v, bal, d2, d3⟩ HRA.out HBA.out hg2 h0 h4⟩
set_option maxRecDepth 100000 in
set_option maxHeartbeats 16000000 in
theorem lst_3 (h v bal val nx best bb : Int) (r1 r2 r3 r4 r5 r6 r7 r8 : Int) (lr : List S53) (A1 : Option Addr) (c1 : Nat) (l1 : List S53) (w : World) (hr1 : Kd.C k53 w A1 4 l1) (hl : l1.length = 4) (h0 : 0 ≤ h) (h4 : h < 4) (n0 : 0 ≤ nx) (n4 : nx ≤ 4)
    (hf : pxWrite h v 3 bal val nx best bb l1 = (r1, r2, r3, r4, r5, r6, r7, r8, lr)) :
    Calls Try.prog 37 #[.agg #[.int .i64 h, .int .i64 v, .int .i64 3, .int .i64 bal, .int .i64 val, .int .i64 nx, .int .i64 best, .int .i64 bb], .slice A1 4 c1] w fun e w' => ∃ v8_ : Value, e = .returned (.tuple #[.agg #[.int .i64 r1, .int .i64 r2, .int .i64 r3, .int .i64 r4, .int .i64 r5, .int .i64 r6, .int .i64 r7, .int .i64 r8], v8_, .int .i64 0]) ∧ Kd.R k53 53 w' w.heap.size (fun _ => True) v8_ lr ∧ Below w.heap.size w w' := by
  have hu53 := Try.underlying53
  have hu26 := Try.underlying26
  have HF := Aside0.mk hf
  have HL := Aside0.mk hl
  have HN := Aside0.mk (And.intro n0 n4)
  clear hf hl n0 n4
  go_enter Try.func37, Try.ntmps37
  go_upto_region 1 with fail
  have HB0 := two_below w (.cells #[.int .i64 h, .int .i64 v, .int .i64 3, .int .i64 bal, .int .i64 val, .int .i64 nx, .int .i64 best, .int .i64 bb] 26) (.cells #[.int .i64 0, .int .i64 0, .int .i64 0, .int .i64 0, .int .i64 0, .int .i64 0, .int .i64 0, .int .i64 0] 26)
  have hs0 := two_size w (.cells #[.int .i64 h, .int .i64 v, .int .i64 3, .int .i64 bal, .int .i64 val, .int .i64 nx, .int .i64 best, .int .i64 bb] 26) (.cells #[.int .i64 0, .int .i64 0, .int .i64 0, .int .i64 0, .int .i64 0, .int .i64 0, .int .i64 0, .int .i64 0] 26)
  have BP := two_first w (.cells #[.int .i64 h, .int .i64 v, .int .i64 3, .int .i64 bal, .int .i64 val, .int .i64 nx, .int .i64 best, .int .i64 bb] 26) (.cells #[.int .i64 0, .int .i64 0, .int .i64 0, .int .i64 0, .int .i64 0, .int .i64 0, .int .i64 0, .int .i64 0] 26)
  have BR := two_second w (.cells #[.int .i64 h, .int .i64 v, .int .i64 3, .int .i64 bal, .int .i64 val, .int .i64 nx, .int .i64 best, .int .i64 bb] 26) (.cells #[.int .i64 0, .int .i64 0, .int .i64 0, .int .i64 0, .int .i64 0, .int .i64 0, .int .i64 0, .int .i64 0] 26)
  generalize (w.alloc (.cells #[.int .i64 h, .int .i64 v, .int .i64 3, .int .i64 bal, .int .i64 val, .int .i64 nx, .int .i64 best, .int .i64 bb] 26)).alloc (.cells #[.int .i64 0, .int .i64 0, .int .i64 0, .int .i64 0, .int .i64 0, .int .i64 0, .int .i64 0, .int .i64 0] 26) = W0 at HB0 hs0 BP BR ⊢
  have HR0 := Aside0.mk (Kd.C_below hr1 HB0)
  have HS0 := Aside0.mk hs0
  clear hr1 hs0
  go_upto_region 2 with (first | ((with_reducible refine gate_dst (N := 11) rfl ?_); refine Kd.R_lit k53 _ 53 ?hg (N := 11) ?hd (xs := ([] : List S53)) (inner := []) (ok := fun _ => True) (okp := fun _ => True) ?hr ?hp (fun _ hk => hk) trivial (Below.refl _ _) (Nat.le_refl _) (by simp) ?_; (case hd => rfl); (case hg => rfl); (case hr => first | (go_simp; done) | (go_simp; rfl)); (case hp => exact (Reps.none _ _)); intro v1 w1 ho hb hg_ hnew_; clear hg_ hnew_; have HO1 := Aside0.mk ho; have HB1 := Aside0.mk hb; clear ho hb) | ((with_reducible refine gate_builtin (b := .append) (xs := #[.tmp 11, .tmp 12]) rfl ?_); at_builtin; refine Kd.R_append_rows k53 (w0 := W0) W0.heap.size rfl (.tmp 11) (.tmp 12) 27 53 (.agg #[(.int .i64 0), (.int .i64 0), (.int .i64 0), (.int .i64 0)]) 32 rfl Try.underlying27 infoCloneblock rfl (by decide) (by decide) v1 [] l1 _ _ _ (fun _ => True) (fun _ => False) rfl rfl ?aO ?aR (fun _ _ h => h) (fun _ h => h.elim) ?aF ?aB ?aS ?aL ?_; (case aR => exact Kd.C_below HR0.out HB1.out); (case aB => exact HB1.out); (case aF => exact (fun _ _ => trivial)); (case aO => exact HO1.out); (case aS => exact (below_size HB1.out)); (case aL => simp); intro v2 W4 ho hb hg hat; have HO2 := Aside0.mk ho; have HB2 := Aside0.mk hb; clear ho hb hg hat))
  have HO3 : Kd.R k53 53 W4 W0.heap.size (fun _ => True) v2 l1 := HO2.out
  obtain ⟨g, cap, rfl, hbg, hgl, _⟩ := own_form HO3 (by rw [HL.out]; decide)
  rw [HL.out] at HO3 ⊢
  have HR4 := Aside0.mk (own_low HO3 HS0.out)
  have hg2 : w.heap.size + 2 ≤ g := by have := HS0.out; omega
  have BP4 := blk_below BP HB2.out
  have BR4 := blk_below BR HB2.out
  have HB4 := below_step HB0 HB2.out
  have hs4 : w.heap.size + 2 ≤ W4.heap.size := by have := HB2.out.size; have := HS0.out; omega
  clear BP BR HB0 HO1 HB1 HO2 HB2 HO3 HR0 hbg
  have hf := HF.out
  unfold pxWrite at hf
  obtain ⟨⟨x0, x1, x2, x3⟩, _⟩ := own_cells HR4.out h h0 h4
  have hd := pxOf_s (x := rd_T53 l1 h) (v := v)
  have hge := pxOf_ge (x := rd_T53 l1 h) (v := v)
  generalize rd_T53 l1 h = bq at x0 x1 x2 x3 hd hf hge
  generalize pxOf bq v = dq at hd hf hge
  obtain ⟨b0, b1, b2, b3⟩ := bq
  obtain ⟨d0, d1, d2, d3⟩ := dq
  dsimp only at x0 x1 x2 x3 hd hge
  have HOF := Aside0.mk (fun W => spec_l05Of.calls b0 b1 b2 b3 v d0 d1 d2 d3 W hd)
  have HGE := Aside0.mk hge
  clear hd HF hge
  have HF := Aside0.mk hf
  clear hf
  have q0 : (0 ≤ h) = True := eq_true h0
  have q1 : (h < (4 : Int)) = True := eq_true h4
  have S0 := Aside0.mk (And.intro x0 (And.intro x1 (And.intro x2 (And.intro x3 (And.intro ((blk_cell BP4 1).trans (rfl : _ = some (Value.int .i64 v))) ((blk_cell BP4 0).trans (rfl : _ = some (Value.int .i64 h))))))))
  clear x0 x1 x2 x3
  have p2 := (blk_cell BP4 2).trans (rfl : _ = some (Value.int .i64 3))
  go_upto_region 9 with fail
  clear p2
  go_cut [8] (fun v9 wx => ∃ gb, v9 = .pointer (some ⟨gb, 0, none⟩) ∧ wx.heap[gb]? = some (.cells #[.int .i64 d0, .int .i64 d1, .int .i64 d2, .int .i64 d3] 53 (0, 0)) ∧ W4.heap.size ≤ gb ∧ Below W4.heap.size W4 wx)
  case first =>
    go_region_held3 (fun w' => w'.cell? ⟨g, h.toNat * 4, none⟩ = some (.int .i64 b0) ∧ w'.cell? ⟨g, h.toNat * 4 + 1, none⟩ = some (.int .i64 b1) ∧ w'.cell? ⟨g, h.toNat * 4 + 2, none⟩ = some (.int .i64 b2) ∧ w'.cell? ⟨g, h.toNat * 4 + 3, none⟩ = some (.int .i64 b3) ∧ w'.cell? ⟨w.heap.size, 1, none⟩ = some (.int .i64 v) ∧ w'.cell? ⟨w.heap.size, 0, none⟩ = some (.int .i64 h))
      (first | exact S0.out | (refine six_step S0.out ?_; (repeat (first | (with_reducible exact Below.refl _ _) | exact HBC.out | (with_reducible apply Below.drew) | (with_reducible apply below_alloc) | (with_reducible refine below_set ?_ (Nat.le_refl _))))))
      (first | (go_at_call 64; refine (HOF.out _).mono ?_; rintro e w' ⟨rfl, hb⟩; (first | (have HBC : Aside0 (Below W4.heap.size W4 w') := ⟨below_first hb⟩) | (have HBC : Aside0 (Below W4.heap.size W4 w') := ⟨below_last hb⟩)); (try (have bz : w'.heap[W4.heap.size]? = _ := blk_below (blk_drew (blk_new W4 _)) hb; have z0 := (blk_cell bz 0).trans (rfl : _ = some (Value.int .i64 0)); have z1 := (blk_cell bz 1).trans (rfl : _ = some (Value.int .i64 0)); have z2 := (blk_cell bz 2).trans (rfl : _ = some (Value.int .i64 0)); have z3 := (blk_cell bz 3).trans (rfl : _ = some (Value.int .i64 0)); have t0 := blk_frozen bz 0; have t1 := blk_frozen bz 1; have t2 := blk_frozen bz 2; have t3 := blk_frozen bz 3; have BZ := Aside0.mk bz; clear bz)); clear hb))
    all_goals (go_wp2_with fail; go_meet)
    · exact ⟨_, rfl, blk_new _ _, HBC.out.size, below_alloc HBC.out _⟩
    · refine ⟨_, rfl, blk_put (cs := #[.int .i64 d0, .int .i64 d1, .int .i64 d2, .int .i64 0]) (blk_put (cs := #[.int .i64 d0, .int .i64 d1, .int .i64 0, .int .i64 0]) (blk_put (cs := #[.int .i64 d0, .int .i64 0, .int .i64 0, .int .i64 0]) (blk_put BZ.out 0 _ rfl) 1 _ rfl) 2 _ rfl) 3 _ rfl, Nat.le_refl _, below_set (below_set (below_set (below_set HBC.out (Nat.le_refl _)) (Nat.le_refl _)) (Nat.le_refl _)) (Nat.le_refl _)⟩
  case rest =>
    obtain ⟨gb, rfl, hgb, hge, hbc⟩ := hcut
    have BPc := blk_below BP4 hbc
    have BRc := blk_below BR4 hbc
    clear BP4 BR4 S0
    have n0 : gb ≠ w.heap.size := by omega
    have n1 : gb ≠ w.heap.size + 1 := by omega
    have n2 : gb ≠ g := by omega
    have GE : w.heap.size ≤ gb := by omega
    have g0 := (blk_cell hgb 0).trans (rfl : _ = some (Value.int .i64 d0))
    have g1 := (blk_cell hgb 1).trans (rfl : _ = some (Value.int .i64 d1))
    have g2 := (blk_cell hgb 2).trans (rfl : _ = some (Value.int .i64 d2))
    have g3 := (blk_cell hgb 3).trans (rfl : _ = some (Value.int .i64 d3))
    have p0 := (blk_cell BPc 0).trans (rfl : _ = some (Value.int .i64 h))
    have pf0 := blk_frozen BPc 0
    have r0_ := (blk_cell BRc 0).trans (rfl : _ = some (Value.int .i64 0))
    have rf0 := blk_frozen BRc 0
    have p1 := (blk_cell BPc 1).trans (rfl : _ = some (Value.int .i64 v))
    have pf1 := blk_frozen BPc 1
    have r1_ := (blk_cell BRc 1).trans (rfl : _ = some (Value.int .i64 0))
    have rf1 := blk_frozen BRc 1
    have p2 := (blk_cell BPc 2).trans (rfl : _ = some (Value.int .i64 3))
    have pf2 := blk_frozen BPc 2
    have r2_ := (blk_cell BRc 2).trans (rfl : _ = some (Value.int .i64 0))
    have rf2 := blk_frozen BRc 2
    have p3 := (blk_cell BPc 3).trans (rfl : _ = some (Value.int .i64 bal))
    have pf3 := blk_frozen BPc 3
    have r3_ := (blk_cell BRc 3).trans (rfl : _ = some (Value.int .i64 0))
    have rf3 := blk_frozen BRc 3
    have p4 := (blk_cell BPc 4).trans (rfl : _ = some (Value.int .i64 val))
    have pf4 := blk_frozen BPc 4
    have r4_ := (blk_cell BRc 4).trans (rfl : _ = some (Value.int .i64 0))
    have rf4 := blk_frozen BRc 4
    have p5 := (blk_cell BPc 5).trans (rfl : _ = some (Value.int .i64 nx))
    have pf5 := blk_frozen BPc 5
    have r5_ := (blk_cell BRc 5).trans (rfl : _ = some (Value.int .i64 0))
    have rf5 := blk_frozen BRc 5
    have p6 := (blk_cell BPc 6).trans (rfl : _ = some (Value.int .i64 best))
    have pf6 := blk_frozen BPc 6
    have r6_ := (blk_cell BRc 6).trans (rfl : _ = some (Value.int .i64 0))
    have rf6 := blk_frozen BRc 6
    have p7 := (blk_cell BPc 7).trans (rfl : _ = some (Value.int .i64 bb))
    have pf7 := blk_frozen BPc 7
    have r7_ := (blk_cell BRc 7).trans (rfl : _ = some (Value.int .i64 0))
    have rf7 := blk_frozen BRc 7
    have HBC := Aside0.mk (below_step HB4 hbc)
    have BRA := Aside0.mk BRc
    have HRC := Aside0.mk (Kd.R_below HR4.out hbc)
    have BPA := Aside0.mk BPc
    have HGB := Aside0.mk hgb
    clear hgb BPc BRc hbc HB4 HR4
    have hf := HF.out
    unfold pxWriteD at hf
    dsimp only at hf
    rw [if_neg (by decide)] at hf
    by_cases e1 : v < d0 ∨ bal < d1 ∨ ¬ d1 = bal
    · rw [if_pos e1] at hf
      simp only [Prod.mk.injEq] at hf
      obtain ⟨rfl, rfl, rfl, rfl, rfl, rfl, rfl, rfl, rfl⟩ := hf
      by_cases e0 : v < d0
      · clear e1
        go_wp2
        refine bodyPost_ret (v := .tuple #[.agg #[.int .i64 h, .int .i64 v, .int .i64 6, .int .i64 bal, .int .i64 val, .int .i64 nx, .int .i64 best, .int .i64 bb], .slice (some ⟨g, 0, none⟩) 4 cap, .int .i64 0]) ?_ rfl ?_
        · refine resL (by rfl) (by rfl) (by rfl) ?_
          with_reducible refine put8z ?_
          repeat (first | (with_reducible exact BRA.out) | (with_reducible refine blk_far ?_ ?ne _; case ne => ((try dsimp only); omega)))
        · exact ⟨_, rfl, end_read (Kd.R_far HRC.out (fun k hk => by have := hk.1; show k ≠ _; dsimp only; omega) _) (below_set HBC.out (Nat.le_refl _))⟩
      by_cases e2 : bal < d1
      · clear e1
        go_wp2
        refine bodyPost_ret (v := .tuple #[.agg #[.int .i64 h, .int .i64 v, .int .i64 6, .int .i64 bal, .int .i64 val, .int .i64 nx, .int .i64 best, .int .i64 bb], .slice (some ⟨g, 0, none⟩) 4 cap, .int .i64 0]) ?_ rfl ?_
        · refine resL (by rfl) (by rfl) (by rfl) ?_
          with_reducible refine put8z ?_
          repeat (first | (with_reducible exact BRA.out) | (with_reducible refine blk_far ?_ ?ne _; case ne => ((try dsimp only); omega)))
        · exact ⟨_, rfl, end_read (Kd.R_far HRC.out (fun k hk => by have := hk.1; show k ≠ _; dsimp only; omega) _) (below_set HBC.out (Nat.le_refl _))⟩
      have e3 : ¬ d1 = bal := (e1.resolve_left e0).resolve_left e2
      have e3b : (d1 != bal) = true := by simp [e3]
      clear e1
      go_wp2
      refine bodyPost_ret (v := .tuple #[.agg #[.int .i64 h, .int .i64 v, .int .i64 6, .int .i64 bal, .int .i64 val, .int .i64 nx, .int .i64 best, .int .i64 bb], .slice (some ⟨g, 0, none⟩) 4 cap, .int .i64 0]) ?_ rfl ?_
      · refine resL (by rfl) (by rfl) (by rfl) ?_
        with_reducible refine put8z ?_
        repeat (first | (with_reducible exact BRA.out) | (with_reducible refine blk_far ?_ ?ne _; case ne => ((try dsimp only); omega)))
      · exact ⟨_, rfl, end_read (Kd.R_far HRC.out (fun k hk => by have := hk.1; show k ≠ _; dsimp only; omega) _) (below_set HBC.out (Nat.le_refl _))⟩
    rw [if_neg e1] at hf
    have e0 : ¬ v < d0 := fun x => e1 (.inl x)
    have e2 : ¬ bal < d1 := fun x => e1 (.inr (.inl x))
    have e3 : bal = d1 := (Classical.byContradiction fun x => e1 (.inr (.inr x)) : d1 = bal).symm
    clear e1
    subst e3
    have e4 : v = d0 := by have := HGE.out; omega
    subst e4
    simp only [Prod.mk.injEq] at hf
    obtain ⟨rfl, rfl, rfl, rfl, rfl, rfl, rfl, rfl, rfl⟩ := hf
    have HW := Aside0.mk (fun W => spec_l05Write.calls h v 3 bal val nx best bb v bal d2 d3 h v 4 bal val 0 best bb v bal bal val W (by unfold spec_l05Write.f; rw [if_neg (by decide)]))
    go_upto_region 14 with (go_at_call 65; refine (HW.out _).mono ?_; rintro e W5 ⟨rfl, hb⟩; have HB5 := Aside0.mk hb; clear hb)
    have BP6 := blk_alloc (blk_alloc (blk_below BPA.out HB5.out) (.cells #[.int .i64 h, .int .i64 v, .int .i64 4, .int .i64 bal, .int .i64 val, .int .i64 0, .int .i64 best, .int .i64 bb] 26)) (.cells #[.int .i64 v, .int .i64 bal, .int .i64 bal, .int .i64 val] 53)
    have BR6 := blk_alloc (blk_alloc (blk_below BRA.out HB5.out) (.cells #[.int .i64 h, .int .i64 v, .int .i64 4, .int .i64 bal, .int .i64 val, .int .i64 0, .int .i64 best, .int .i64 bb] 26)) (.cells #[.int .i64 v, .int .i64 bal, .int .i64 bal, .int .i64 val] 53)
    have BX6 := two_first W5 (.cells #[.int .i64 h, .int .i64 v, .int .i64 4, .int .i64 bal, .int .i64 val, .int .i64 0, .int .i64 best, .int .i64 bb] 26) (.cells #[.int .i64 v, .int .i64 bal, .int .i64 bal, .int .i64 val] 53)
    have BO6 := two_second W5 (.cells #[.int .i64 h, .int .i64 v, .int .i64 4, .int .i64 bal, .int .i64 val, .int .i64 0, .int .i64 best, .int .i64 bb] 26) (.cells #[.int .i64 v, .int .i64 bal, .int .i64 bal, .int .i64 val] 53)
    have HB6 := below_step (below_step HBC.out HB5.out) (two_below W5 (.cells #[.int .i64 h, .int .i64 v, .int .i64 4, .int .i64 bal, .int .i64 val, .int .i64 0, .int .i64 best, .int .i64 bb] 26) (.cells #[.int .i64 v, .int .i64 bal, .int .i64 bal, .int .i64 val] 53))
    have HR6 := Kd.R_below (Kd.R_below HRC.out HB5.out) (two_below W5 (.cells #[.int .i64 h, .int .i64 v, .int .i64 4, .int .i64 bal, .int .i64 val, .int .i64 0, .int .i64 best, .int .i64 bb] 26) (.cells #[.int .i64 v, .int .i64 bal, .int .i64 bal, .int .i64 val] 53))
    have hs5 := HB5.out.size
    have hgc := blk_lt HGB.out
    clear p0 pf0 r0_ rf0 p1 pf1 r1_ rf1 p2 pf2 r2_ rf2 p3 pf3 r3_ rf3 p4 pf4 r4_ rf4 p5 pf5 r5_ rf5 p6 pf6 r6_ rf6 p7 pf7 r7_ rf7 g0 g1 g2 g3 e0 e2
    generalize (W5.alloc (.cells #[.int .i64 h, .int .i64 v, .int .i64 4, .int .i64 bal, .int .i64 val, .int .i64 0, .int .i64 best, .int .i64 bb] 26)).alloc (.cells #[.int .i64 v, .int .i64 bal, .int .i64 bal, .int .i64 val] 53) = W6 at BP6 BR6 BX6 BO6 HB6 HR6 ⊢
    have p0 := (blk_cell BP6 0).trans (rfl : _ = some (Value.int .i64 h))
    have y0 := (blk_cell BX6 0).trans (rfl : _ = some (Value.int .i64 h))
    have r0_ := (blk_cell BR6 0).trans (rfl : _ = some (Value.int .i64 0))
    have rf0 := blk_frozen BR6 0
    have y1 := (blk_cell BX6 1).trans (rfl : _ = some (Value.int .i64 v))
    have r1_ := (blk_cell BR6 1).trans (rfl : _ = some (Value.int .i64 0))
    have rf1 := blk_frozen BR6 1
    have y2 := (blk_cell BX6 2).trans (rfl : _ = some (Value.int .i64 4))
    have r2_ := (blk_cell BR6 2).trans (rfl : _ = some (Value.int .i64 0))
    have rf2 := blk_frozen BR6 2
    have y3 := (blk_cell BX6 3).trans (rfl : _ = some (Value.int .i64 bal))
    have r3_ := (blk_cell BR6 3).trans (rfl : _ = some (Value.int .i64 0))
    have rf3 := blk_frozen BR6 3
    have y4 := (blk_cell BX6 4).trans (rfl : _ = some (Value.int .i64 val))
    have r4_ := (blk_cell BR6 4).trans (rfl : _ = some (Value.int .i64 0))
    have rf4 := blk_frozen BR6 4
    have y5 := (blk_cell BX6 5).trans (rfl : _ = some (Value.int .i64 0))
    have r5_ := (blk_cell BR6 5).trans (rfl : _ = some (Value.int .i64 0))
    have rf5 := blk_frozen BR6 5
    have y6 := (blk_cell BX6 6).trans (rfl : _ = some (Value.int .i64 best))
    have r6_ := (blk_cell BR6 6).trans (rfl : _ = some (Value.int .i64 0))
    have rf6 := blk_frozen BR6 6
    have y7 := (blk_cell BX6 7).trans (rfl : _ = some (Value.int .i64 bb))
    have r7_ := (blk_cell BR6 7).trans (rfl : _ = some (Value.int .i64 0))
    have rf7 := blk_frozen BR6 7
    have g0 := (blk_cell BO6 0).trans (rfl : _ = some (Value.int .i64 v))
    have g1 := (blk_cell BO6 1).trans (rfl : _ = some (Value.int .i64 bal))
    have g2 := (blk_cell BO6 2).trans (rfl : _ = some (Value.int .i64 bal))
    have g3 := (blk_cell BO6 3).trans (rfl : _ = some (Value.int .i64 val))
    obtain ⟨⟨x0, x1, x2, x3⟩, xf0, xf1, xf2, xf3⟩ := own_cells HR6 h h0 h4
    have HRA := Aside0.mk HR6
    have HBA := Aside0.mk HB6
    have BRB := Aside0.mk BR6
    clear HR6 HB6 BP6 BR6 BX6 BO6 BRA
    have ng0 : g ≠ w.heap.size := by omega
    have ng1 : g ≠ w.heap.size + 1 := by omega
    have ng2 : g ≠ W5.heap.size := by omega
    have ng3 : g ≠ W5.heap.size + 1 := by omega
    have nr2 : W5.heap.size ≠ w.heap.size + 1 := by omega
    clear hs5 hgc
    go_wp2
    refine bodyPost_ret (v := .tuple #[.agg #[.int .i64 h, .int .i64 v, .int .i64 4, .int .i64 bal, .int .i64 val, .int .i64 0, .int .i64 best, .int .i64 bb], .slice (some ⟨g, 0, none⟩) 4 cap, .int .i64 0]) ?_ rfl ?_
    · refine resL (by rfl) (by rfl) (by rfl) ?_
      with_reducible refine put8z ?_
      repeat (first | (with_reducible exact BRB.out) | (with_reducible refine blk_far ?_ ?ne _; case ne => ((try dsimp only); omega)))
    · exact ⟨_, rfl, end_write h ⟨v, bal, bal, val⟩ HRA.out HBA.out hg2 h0 h4⟩
end Go.Proofs.Ytlclbdfcniiolaa.Hand
