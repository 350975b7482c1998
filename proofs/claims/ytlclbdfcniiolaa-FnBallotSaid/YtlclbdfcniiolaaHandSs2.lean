/- The reference's step in its reading phases, and where a ballot has ended: what it comes to; for every ballot whose next place lies from 0 to 4, and a list of four blocks. -/
import Derived.Test.YtlclbdfcniiolaaHandSsw
import Derived.BigQuiet
import Derived.BigRegion
import Derived.RegionCalls
import Derived.Deep.RegionWith
import Derived.Deep.RegionHeld3
import Derived.Deep.DrawnRows
namespace Go.Proofs.Ytlclbdfcniiolaa.Hand
open Go.RowKit Go.Proofs.YtlclbdfcniiolaaW.PrintWords Go.Proofs.YtlclbdfcniiolaaW.PrintLast Go.Proofs.YtlclbdfcniiolaaW.PrintMore Go.Proofs.Ytlclbdfcniiolaa.Q
set_option linter.unusedVariables false
set_option linter.unusedSimpArgs false
attribute [local go_sem ↓] Go.wp_at_zero Go.wp_at_succ
set_option maxRecDepth 100000 in
set_option maxHeartbeats 16000000 in
theorem lst_2 (h v bal val nx best bb : Int) (r1 r2 r3 r4 r5 r6 r7 r8 : Int) (lr : List S53) (A1 : Option Addr) (c1 : Nat) (l1 : List S53) (w : World) (hr1 : Kd.C k53 w A1 4 l1) (hl : l1.length = 4) (h0 : 0 ≤ h) (h4 : h < 4) (n0 : 0 ≤ nx) (n4 : nx ≤ 4)
    (hf : (let q := pxRead h v 2 bal val nx best bb l1; (q.1, q.2.1, q.2.2.1, q.2.2.2.1, q.2.2.2.2.1, q.2.2.2.2.2.1, q.2.2.2.2.2.2.1, q.2.2.2.2.2.2.2, l1)) = (r1, r2, r3, r4, r5, r6, r7, r8, lr)) :
    Calls Try.prog 37 #[.agg #[.int .i64 h, .int .i64 v, .int .i64 2, .int .i64 bal, .int .i64 val, .int .i64 nx, .int .i64 best, .int .i64 bb], .slice A1 4 c1] w fun e w' => ∃ v8_ : Value, e = .returned (.tuple #[.agg #[.int .i64 r1, .int .i64 r2, .int .i64 r3, .int .i64 r4, .int .i64 r5, .int .i64 r6, .int .i64 r7, .int .i64 r8], v8_, .int .i64 0]) ∧ Kd.R k53 53 w' w.heap.size (fun _ => True) v8_ lr ∧ Below w.heap.size w w' := by
  have hu53 := Try.underlying53
  have hu26 := Try.underlying26
  have HF := Aside0.mk hf
  have HL := Aside0.mk hl
  have HN := Aside0.mk (And.intro n0 n4)
  clear hf hl n0 n4
  go_enter Try.func37, Try.ntmps37
  go_upto_region 1 with fail
  have HB0 := two_below w (.cells #[.int .i64 h, .int .i64 v, .int .i64 2, .int .i64 bal, .int .i64 val, .int .i64 nx, .int .i64 best, .int .i64 bb] 26) (.cells #[.int .i64 0, .int .i64 0, .int .i64 0, .int .i64 0, .int .i64 0, .int .i64 0, .int .i64 0, .int .i64 0] 26)
  have hs0 := two_size w (.cells #[.int .i64 h, .int .i64 v, .int .i64 2, .int .i64 bal, .int .i64 val, .int .i64 nx, .int .i64 best, .int .i64 bb] 26) (.cells #[.int .i64 0, .int .i64 0, .int .i64 0, .int .i64 0, .int .i64 0, .int .i64 0, .int .i64 0, .int .i64 0] 26)
  have BP := two_first w (.cells #[.int .i64 h, .int .i64 v, .int .i64 2, .int .i64 bal, .int .i64 val, .int .i64 nx, .int .i64 best, .int .i64 bb] 26) (.cells #[.int .i64 0, .int .i64 0, .int .i64 0, .int .i64 0, .int .i64 0, .int .i64 0, .int .i64 0, .int .i64 0] 26)
  have BR := two_second w (.cells #[.int .i64 h, .int .i64 v, .int .i64 2, .int .i64 bal, .int .i64 val, .int .i64 nx, .int .i64 best, .int .i64 bb] 26) (.cells #[.int .i64 0, .int .i64 0, .int .i64 0, .int .i64 0, .int .i64 0, .int .i64 0, .int .i64 0, .int .i64 0] 26)
  generalize (w.alloc (.cells #[.int .i64 h, .int .i64 v, .int .i64 2, .int .i64 bal, .int .i64 val, .int .i64 nx, .int .i64 best, .int .i64 bb] 26)).alloc (.cells #[.int .i64 0, .int .i64 0, .int .i64 0, .int .i64 0, .int .i64 0, .int .i64 0, .int .i64 0, .int .i64 0] 26) = W0 at HB0 hs0 BP BR ⊢
  have HR0 := Aside0.mk (Kd.C_below hr1 HB0)
  have HS0 := Aside0.mk hs0
  clear hr1 hs0
  go_upto_region 2 with (first | ((with_reducible refine gate_dst (N := 11) rfl ?_); refine Kd.R_lit k53 _ 53 ?hg (N := 11) ?hd (xs := ([] : List S53)) (inner := []) (ok := fun _ => True) (okp := fun _ => True) ?hr ?hp (fun _ hk => hk) trivial (Below.refl _ _) (Nat.le_refl _) (by simp) ?_; (case hd => rfl); (case hg => rfl); (case hr => first | (go_simp; done) | (go_simp; rfl)); (case hp => exact (Reps.none _ _)); intro v1 w1 ho hb hg_ hnew_; clear hg_ hnew_; have HO1 := Aside0.mk ho; have HB1 := Aside0.mk hb; clear ho hb) | ((with_reducible refine gate_builtin (b := .append) (xs := #[.tmp 11, .tmp 12]) rfl ?_); at_builtin; refine Kd.R_append_rows k53 (w0 := W0) W0.heap.size rfl (.tmp 11) (.tmp 12) 27 53 (.agg #[(.int .i64 0), (.int .i64 0), (.int .i64 0), (.int .i64 0)]) 32 rfl Try.underlying27 infoCloneblock rfl (by decide) (by decide) v1 [] l1 _ _ _ (fun _ => True) (fun _ => False) rfl rfl ?aO ?aR (fun _ _ h => h) (fun _ h => h.elim) ?aF ?aB ?aS ?aL ?_; (case aR => exact Kd.C_below HR0.out HB1.out); (case aB => exact HB1.out); (case aF => exact (fun _ _ => trivial)); (case aO => exact HO1.out); (case aS => exact (below_size HB1.out)); (case aL => simp); intro v2 W4 ho hb hg hat; have HO2 := Aside0.mk ho; have HB2 := Aside0.mk hb; clear ho hb hg hat))
  have HO3 : Kd.R k53 53 W4 W0.heap.size (fun _ => True) v2 l1 := HO2.out
  obtain ⟨g, cap, rfl, hbg, hgl, _⟩ := own_form HO3 (by rw [HL.out]; decide)
  rw [HL.out] at HO3 ⊢
  have HR4 := Aside0.mk (own_low HO3 HS0.out)
  have hg2 : w.heap.size + 2 ≤ g := by have := HS0.out; omega
  have BP4 := blk_below BP HB2.out
  have BR4 := blk_below BR HB2.out
  have HB4 := below_step HB0 HB2.out
  have hs4 : w.heap.size + 2 ≤ W4.heap.size := by have := HB2.out.size; have := HS0.out; omega
  clear BP BR HB0 HO1 HB1 HO2 HB2 HO3 HR0 hbg
  have hf := HF.out
  simp only [Prod.mk.injEq] at hf
  obtain ⟨e1, e2, e3, e4, e5, e6, e7, e8, rfl⟩ := hf
  have HCALL := Aside0.mk (spec_read h v 2 bal val nx best bb r1 r2 r3 r4 r5 r6 r7 r8 _ g cap _ l1 W4 HR4.out HN.out.1 HN.out.2 (by rw [← e1, ← e2, ← e3, ← e4, ← e5, ← e6, ← e7, ← e8]))
  clear e1 e2 e3 e4 e5 e6 e7 e8
  have p0 := (blk_cell BP4 0).trans (rfl : _ = some (Value.int .i64 h))
  have pf0 := blk_frozen BP4 0
  have p1 := (blk_cell BP4 1).trans (rfl : _ = some (Value.int .i64 v))
  have pf1 := blk_frozen BP4 1
  have p2 := (blk_cell BP4 2).trans (rfl : _ = some (Value.int .i64 2))
  have pf2 := blk_frozen BP4 2
  have p3 := (blk_cell BP4 3).trans (rfl : _ = some (Value.int .i64 bal))
  have pf3 := blk_frozen BP4 3
  have p4 := (blk_cell BP4 4).trans (rfl : _ = some (Value.int .i64 val))
  have pf4 := blk_frozen BP4 4
  have p5 := (blk_cell BP4 5).trans (rfl : _ = some (Value.int .i64 nx))
  have pf5 := blk_frozen BP4 5
  have p6 := (blk_cell BP4 6).trans (rfl : _ = some (Value.int .i64 best))
  have pf6 := blk_frozen BP4 6
  have p7 := (blk_cell BP4 7).trans (rfl : _ = some (Value.int .i64 bb))
  have pf7 := blk_frozen BP4 7
  have BPA := Aside0.mk BP4
  have BRA4 := Aside0.mk BR4
  have HBA := Aside0.mk HB4
  clear BP4 BR4 HB4
  go_wp2_with (go_at_call 63; refine (HCALL.out).mono ?_; rintro e W5 ⟨rfl, hb⟩; have HB5 := Aside0.mk hb; have BRA := Aside0.mk (blk_below BRA4.out hb); have r0_ := (blk_cell BRA.out 0).trans (rfl : _ = some (Value.int .i64 0)); have rf0 := blk_frozen BRA.out 0; have r1_ := (blk_cell BRA.out 1).trans (rfl : _ = some (Value.int .i64 0)); have rf1 := blk_frozen BRA.out 1; have r2_ := (blk_cell BRA.out 2).trans (rfl : _ = some (Value.int .i64 0)); have rf2 := blk_frozen BRA.out 2; have r3_ := (blk_cell BRA.out 3).trans (rfl : _ = some (Value.int .i64 0)); have rf3 := blk_frozen BRA.out 3; have r4_ := (blk_cell BRA.out 4).trans (rfl : _ = some (Value.int .i64 0)); have rf4 := blk_frozen BRA.out 4; have r5_ := (blk_cell BRA.out 5).trans (rfl : _ = some (Value.int .i64 0)); have rf5 := blk_frozen BRA.out 5; have r6_ := (blk_cell BRA.out 6).trans (rfl : _ = some (Value.int .i64 0)); have rf6 := blk_frozen BRA.out 6; have r7_ := (blk_cell BRA.out 7).trans (rfl : _ = some (Value.int .i64 0)); have rf7 := blk_frozen BRA.out 7; clear hb)
  refine bodyPost_ret (v := .tuple #[.agg #[.int .i64 r1, .int .i64 r2, .int .i64 r3, .int .i64 r4, .int .i64 r5, .int .i64 r6, .int .i64 r7, .int .i64 r8], .slice (some ⟨g, 0, none⟩) 4 cap, .int .i64 0]) ?_ rfl ?_
  · refine resL (by rfl) (by rfl) (by rfl) ?_
    with_reducible refine put8z ?_
    repeat (first | (with_reducible exact BRA.out) | (with_reducible refine blk_far ?_ ?ne _; case ne => ((try dsimp only); omega)))
  · exact ⟨_, rfl, end_read (Kd.R_below HR4.out HB5.out) (below_step HBA.out HB5.out)⟩
set_option maxRecDepth 100000 in
set_option maxHeartbeats 16000000 in
theorem lst_4 (h v bal val nx best bb : Int) (r1 r2 r3 r4 r5 r6 r7 r8 : Int) (lr : List S53) (A1 : Option Addr) (c1 : Nat) (l1 : List S53) (w : World) (hr1 : Kd.C k53 w A1 4 l1) (hl : l1.length = 4) (h0 : 0 ≤ h) (h4 : h < 4) (n0 : 0 ≤ nx) (n4 : nx ≤ 4)
    (hf : (let q := pxRead h v 4 bal val nx best bb l1; (q.1, q.2.1, q.2.2.1, q.2.2.2.1, q.2.2.2.2.1, q.2.2.2.2.2.1, q.2.2.2.2.2.2.1, q.2.2.2.2.2.2.2, l1)) = (r1, r2, r3, r4, r5, r6, r7, r8, lr)) :
    Calls Try.prog 37 #[.agg #[.int .i64 h, .int .i64 v, .int .i64 4, .int .i64 bal, .int .i64 val, .int .i64 nx, .int .i64 best, .int .i64 bb], .slice A1 4 c1] w fun e w' => ∃ v8_ : Value, e = .returned (.tuple #[.agg #[.int .i64 r1, .int .i64 r2, .int .i64 r3, .int .i64 r4, .int .i64 r5, .int .i64 r6, .int .i64 r7, .int .i64 r8], v8_, .int .i64 0]) ∧ Kd.R k53 53 w' w.heap.size (fun _ => True) v8_ lr ∧ Below w.heap.size w w' := by
  have hu53 := Try.underlying53
  have hu26 := Try.underlying26
  have HF := Aside0.mk hf
  have HL := Aside0.mk hl
  have HN := Aside0.mk (And.intro n0 n4)
  clear hf hl n0 n4
  go_enter Try.func37, Try.ntmps37
  go_upto_region 1 with fail
  have HB0 := two_below w (.cells #[.int .i64 h, .int .i64 v, .int .i64 4, .int .i64 bal, .int .i64 val, .int .i64 nx, .int .i64 best, .int .i64 bb] 26) (.cells #[.int .i64 0, .int .i64 0, .int .i64 0, .int .i64 0, .int .i64 0, .int .i64 0, .int .i64 0, .int .i64 0] 26)
  have hs0 := two_size w (.cells #[.int .i64 h, .int .i64 v, .int .i64 4, .int .i64 bal, .int .i64 val, .int .i64 nx, .int .i64 best, .int .i64 bb] 26) (.cells #[.int .i64 0, .int .i64 0, .int .i64 0, .int .i64 0, .int .i64 0, .int .i64 0, .int .i64 0, .int .i64 0] 26)
  have BP := two_first w (.cells #[.int .i64 h, .int .i64 v, .int .i64 4, .int .i64 bal, .int .i64 val, .int .i64 nx, .int .i64 best, .int .i64 bb] 26) (.cells #[.int .i64 0, .int .i64 0, .int .i64 0, .int .i64 0, .int .i64 0, .int .i64 0, .int .i64 0, .int .i64 0] 26)
  have BR := two_second w (.cells #[.int .i64 h, .int .i64 v, .int .i64 4, .int .i64 bal, .int .i64 val, .int .i64 nx, .int .i64 best, .int .i64 bb] 26) (.cells #[.int .i64 0, .int .i64 0, .int .i64 0, .int .i64 0, .int .i64 0, .int .i64 0, .int .i64 0, .int .i64 0] 26)
  generalize (w.alloc (.cells #[.int .i64 h, .int .i64 v, .int .i64 4, .int .i64 bal, .int .i64 val, .int .i64 nx, .int .i64 best, .int .i64 bb] 26)).alloc (.cells #[.int .i64 0, .int .i64 0, .int .i64 0, .int .i64 0, .int .i64 0, .int .i64 0, .int .i64 0, .int .i64 0] 26) = W0 at HB0 hs0 BP BR ⊢
  have HR0 := Aside0.mk (Kd.C_below hr1 HB0)
  have HS0 := Aside0.mk hs0
  clear hr1 hs0
  go_upto_region 2 with (first | ((with_reducible refine gate_dst (N := 11) rfl ?_); refine Kd.R_lit k53 _ 53 ?hg (N := 11) ?hd (xs := ([] : List S53)) (inner := []) (ok := fun _ => True) (okp := fun _ => True) ?hr ?hp (fun _ hk => hk) trivial (Below.refl _ _) (Nat.le_refl _) (by simp) ?_; (case hd => rfl); (case hg => rfl); (case hr => first | (go_simp; done) | (go_simp; rfl)); (case hp => exact (Reps.none _ _)); intro v1 w1 ho hb hg_ hnew_; clear hg_ hnew_; have HO1 := Aside0.mk ho; have HB1 := Aside0.mk hb; clear ho hb) | ((with_reducible refine gate_builtin (b := .append) (xs := #[.tmp 11, .tmp 12]) rfl ?_); at_builtin; refine Kd.R_append_rows k53 (w0 := W0) W0.heap.size rfl (.tmp 11) (.tmp 12) 27 53 (.agg #[(.int .i64 0), (.int .i64 0), (.int .i64 0), (.int .i64 0)]) 32 rfl Try.underlying27 infoCloneblock rfl (by decide) (by decide) v1 [] l1 _ _ _ (fun _ => True) (fun _ => False) rfl rfl ?aO ?aR (fun _ _ h => h) (fun _ h => h.elim) ?aF ?aB ?aS ?aL ?_; (case aR => exact Kd.C_below HR0.out HB1.out); (case aB => exact HB1.out); (case aF => exact (fun _ _ => trivial)); (case aO => exact HO1.out); (case aS => exact (below_size HB1.out)); (case aL => simp); intro v2 W4 ho hb hg hat; have HO2 := Aside0.mk ho; have HB2 := Aside0.mk hb; clear ho hb hg hat))
  have HO3 : Kd.R k53 53 W4 W0.heap.size (fun _ => True) v2 l1 := HO2.out
  obtain ⟨g, cap, rfl, hbg, hgl, _⟩ := own_form HO3 (by rw [HL.out]; decide)
  rw [HL.out] at HO3 ⊢
  have HR4 := Aside0.mk (own_low HO3 HS0.out)
  have hg2 : w.heap.size + 2 ≤ g := by have := HS0.out; omega
  have BP4 := blk_below BP HB2.out
  have BR4 := blk_below BR HB2.out
  have HB4 := below_step HB0 HB2.out
  have hs4 : w.heap.size + 2 ≤ W4.heap.size := by have := HB2.out.size; have := HS0.out; omega
  clear BP BR HB0 HO1 HB1 HO2 HB2 HO3 HR0 hbg
  have hf := HF.out
  simp only [Prod.mk.injEq] at hf
  obtain ⟨e1, e2, e3, e4, e5, e6, e7, e8, rfl⟩ := hf
  have HCALL := Aside0.mk (spec_read h v 4 bal val nx best bb r1 r2 r3 r4 r5 r6 r7 r8 _ g cap _ l1 W4 HR4.out HN.out.1 HN.out.2 (by rw [← e1, ← e2, ← e3, ← e4, ← e5, ← e6, ← e7, ← e8]))
  clear e1 e2 e3 e4 e5 e6 e7 e8
  have p0 := (blk_cell BP4 0).trans (rfl : _ = some (Value.int .i64 h))
  have pf0 := blk_frozen BP4 0
  have p1 := (blk_cell BP4 1).trans (rfl : _ = some (Value.int .i64 v))
  have pf1 := blk_frozen BP4 1
  have p2 := (blk_cell BP4 2).trans (rfl : _ = some (Value.int .i64 4))
  have pf2 := blk_frozen BP4 2
  have p3 := (blk_cell BP4 3).trans (rfl : _ = some (Value.int .i64 bal))
  have pf3 := blk_frozen BP4 3
  have p4 := (blk_cell BP4 4).trans (rfl : _ = some (Value.int .i64 val))
  have pf4 := blk_frozen BP4 4
  have p5 := (blk_cell BP4 5).trans (rfl : _ = some (Value.int .i64 nx))
  have pf5 := blk_frozen BP4 5
  have p6 := (blk_cell BP4 6).trans (rfl : _ = some (Value.int .i64 best))
  have pf6 := blk_frozen BP4 6
  have p7 := (blk_cell BP4 7).trans (rfl : _ = some (Value.int .i64 bb))
  have pf7 := blk_frozen BP4 7
  have BPA := Aside0.mk BP4
  have BRA4 := Aside0.mk BR4
  have HBA := Aside0.mk HB4
  clear BP4 BR4 HB4
  go_wp2_with (go_at_call 63; refine (HCALL.out).mono ?_; rintro e W5 ⟨rfl, hb⟩; have HB5 := Aside0.mk hb; have BRA := Aside0.mk (blk_below BRA4.out hb); have r0_ := (blk_cell BRA.out 0).trans (rfl : _ = some (Value.int .i64 0)); have rf0 := blk_frozen BRA.out 0; have r1_ := (blk_cell BRA.out 1).trans (rfl : _ = some (Value.int .i64 0)); have rf1 := blk_frozen BRA.out 1; have r2_ := (blk_cell BRA.out 2).trans (rfl : _ = some (Value.int .i64 0)); have rf2 := blk_frozen BRA.out 2; have r3_ := (blk_cell BRA.out 3).trans (rfl : _ = some (Value.int .i64 0)); have rf3 := blk_frozen BRA.out 3; have r4_ := (blk_cell BRA.out 4).trans (rfl : _ = some (Value.int .i64 0)); have rf4 := blk_frozen BRA.out 4; have r5_ := (blk_cell BRA.out 5).trans (rfl : _ = some (Value.int .i64 0)); have rf5 := blk_frozen BRA.out 5; have r6_ := (blk_cell BRA.out 6).trans (rfl : _ = some (Value.int .i64 0)); have rf6 := blk_frozen BRA.out 6; have r7_ := (blk_cell BRA.out 7).trans (rfl : _ = some (Value.int .i64 0)); have rf7 := blk_frozen BRA.out 7; clear hb)
  refine bodyPost_ret (v := .tuple #[.agg #[.int .i64 r1, .int .i64 r2, .int .i64 r3, .int .i64 r4, .int .i64 r5, .int .i64 r6, .int .i64 r7, .int .i64 r8], .slice (some ⟨g, 0, none⟩) 4 cap, .int .i64 0]) ?_ rfl ?_
  · refine resL (by rfl) (by rfl) (by rfl) ?_
    with_reducible refine put8z ?_
    repeat (first | (with_reducible exact BRA.out) | (with_reducible refine blk_far ?_ ?ne _; case ne => ((try dsimp only); omega)))
  · exact ⟨_, rfl, end_read (Kd.R_below HR4.out HB5.out) (below_step HBA.out HB5.out)⟩
set_option maxRecDepth 100000 in
set_option maxHeartbeats 16000000 in
theorem lst_5 (h v bal val nx best bb : Int) (r1 r2 r3 r4 r5 r6 r7 r8 : Int) (lr : List S53) (A1 : Option Addr) (c1 : Nat) (l1 : List S53) (w : World) (hr1 : Kd.C k53 w A1 4 l1) (hl : l1.length = 4) (h0 : 0 ≤ h) (h4 : h < 4) (n0 : 0 ≤ nx) (n4 : nx ≤ 4)
    (hf : (h, v, 5, bal, val, nx, best, bb, l1) = (r1, r2, r3, r4, r5, r6, r7, r8, lr)) :
    Calls Try.prog 37 #[.agg #[.int .i64 h, .int .i64 v, .int .i64 5, .int .i64 bal, .int .i64 val, .int .i64 nx, .int .i64 best, .int .i64 bb], .slice A1 4 c1] w fun e w' => ∃ v8_ : Value, e = .returned (.tuple #[.agg #[.int .i64 r1, .int .i64 r2, .int .i64 r3, .int .i64 r4, .int .i64 r5, .int .i64 r6, .int .i64 r7, .int .i64 r8], v8_, .int .i64 15]) ∧ Kd.R k53 53 w' w.heap.size (fun _ => True) v8_ lr ∧ Below w.heap.size w w' := by
  have hu53 := Try.underlying53
  have hu26 := Try.underlying26
  have HF := Aside0.mk hf
  have HL := Aside0.mk hl
  have HN := Aside0.mk (And.intro n0 n4)
  clear hf hl n0 n4
  go_enter Try.func37, Try.ntmps37
  go_upto_region 1 with fail
  have HB0 := two_below w (.cells #[.int .i64 h, .int .i64 v, .int .i64 5, .int .i64 bal, .int .i64 val, .int .i64 nx, .int .i64 best, .int .i64 bb] 26) (.cells #[.int .i64 0, .int .i64 0, .int .i64 0, .int .i64 0, .int .i64 0, .int .i64 0, .int .i64 0, .int .i64 0] 26)
  have hs0 := two_size w (.cells #[.int .i64 h, .int .i64 v, .int .i64 5, .int .i64 bal, .int .i64 val, .int .i64 nx, .int .i64 best, .int .i64 bb] 26) (.cells #[.int .i64 0, .int .i64 0, .int .i64 0, .int .i64 0, .int .i64 0, .int .i64 0, .int .i64 0, .int .i64 0] 26)
  have BP := two_first w (.cells #[.int .i64 h, .int .i64 v, .int .i64 5, .int .i64 bal, .int .i64 val, .int .i64 nx, .int .i64 best, .int .i64 bb] 26) (.cells #[.int .i64 0, .int .i64 0, .int .i64 0, .int .i64 0, .int .i64 0, .int .i64 0, .int .i64 0, .int .i64 0] 26)
  have BR := two_second w (.cells #[.int .i64 h, .int .i64 v, .int .i64 5, .int .i64 bal, .int .i64 val, .int .i64 nx, .int .i64 best, .int .i64 bb] 26) (.cells #[.int .i64 0, .int .i64 0, .int .i64 0, .int .i64 0, .int .i64 0, .int .i64 0, .int .i64 0, .int .i64 0] 26)
  generalize (w.alloc (.cells #[.int .i64 h, .int .i64 v, .int .i64 5, .int .i64 bal, .int .i64 val, .int .i64 nx, .int .i64 best, .int .i64 bb] 26)).alloc (.cells #[.int .i64 0, .int .i64 0, .int .i64 0, .int .i64 0, .int .i64 0, .int .i64 0, .int .i64 0, .int .i64 0] 26) = W0 at HB0 hs0 BP BR ⊢
  have HR0 := Aside0.mk (Kd.C_below hr1 HB0)
  have HS0 := Aside0.mk hs0
  clear hr1 hs0
  go_upto_region 2 with (first | ((with_reducible refine gate_dst (N := 11) rfl ?_); refine Kd.R_lit k53 _ 53 ?hg (N := 11) ?hd (xs := ([] : List S53)) (inner := []) (ok := fun _ => True) (okp := fun _ => True) ?hr ?hp (fun _ hk => hk) trivial (Below.refl _ _) (Nat.le_refl _) (by simp) ?_; (case hd => rfl); (case hg => rfl); (case hr => first | (go_simp; done) | (go_simp; rfl)); (case hp => exact (Reps.none _ _)); intro v1 w1 ho hb hg_ hnew_; clear hg_ hnew_; have HO1 := Aside0.mk ho; have HB1 := Aside0.mk hb; clear ho hb) | ((with_reducible refine gate_builtin (b := .append) (xs := #[.tmp 11, .tmp 12]) rfl ?_); at_builtin; refine Kd.R_append_rows k53 (w0 := W0) W0.heap.size rfl (.tmp 11) (.tmp 12) 27 53 (.agg #[(.int .i64 0), (.int .i64 0), (.int .i64 0), (.int .i64 0)]) 32 rfl Try.underlying27 infoCloneblock rfl (by decide) (by decide) v1 [] l1 _ _ _ (fun _ => True) (fun _ => False) rfl rfl ?aO ?aR (fun _ _ h => h) (fun _ h => h.elim) ?aF ?aB ?aS ?aL ?_; (case aR => exact Kd.C_below HR0.out HB1.out); (case aB => exact HB1.out); (case aF => exact (fun _ _ => trivial)); (case aO => exact HO1.out); (case aS => exact (below_size HB1.out)); (case aL => simp); intro v2 W4 ho hb hg hat; have HO2 := Aside0.mk ho; have HB2 := Aside0.mk hb; clear ho hb hg hat))
  have HO3 : Kd.R k53 53 W4 W0.heap.size (fun _ => True) v2 l1 := HO2.out
  obtain ⟨g, cap, rfl, hbg, hgl, _⟩ := own_form HO3 (by rw [HL.out]; decide)
  rw [HL.out] at HO3 ⊢
  have HR4 := Aside0.mk (own_low HO3 HS0.out)
  have hg2 : w.heap.size + 2 ≤ g := by have := HS0.out; omega
  have BP4 := blk_below BP HB2.out
  have BR4 := blk_below BR HB2.out
  have HB4 := below_step HB0 HB2.out
  have hs4 : w.heap.size + 2 ≤ W4.heap.size := by have := HB2.out.size; have := HS0.out; omega
  clear BP BR HB0 HO1 HB1 HO2 HB2 HO3 HR0 hbg
  have hf := HF.out
  simp only [Prod.mk.injEq] at hf
  obtain ⟨rfl, rfl, rfl, rfl, rfl, rfl, rfl, rfl, rfl⟩ := hf
  have p0 := (blk_cell BP4 0).trans (rfl : _ = some (Value.int .i64 h))
  have pf0 := blk_frozen BP4 0
  have r0_ := (blk_cell BR4 0).trans (rfl : _ = some (Value.int .i64 0))
  have rf0 := blk_frozen BR4 0
  have p1 := (blk_cell BP4 1).trans (rfl : _ = some (Value.int .i64 v))
  have pf1 := blk_frozen BP4 1
  have r1_ := (blk_cell BR4 1).trans (rfl : _ = some (Value.int .i64 0))
  have rf1 := blk_frozen BR4 1
  have p2 := (blk_cell BP4 2).trans (rfl : _ = some (Value.int .i64 5))
  have pf2 := blk_frozen BP4 2
  have r2_ := (blk_cell BR4 2).trans (rfl : _ = some (Value.int .i64 0))
  have rf2 := blk_frozen BR4 2
  have p3 := (blk_cell BP4 3).trans (rfl : _ = some (Value.int .i64 bal))
  have pf3 := blk_frozen BP4 3
  have r3_ := (blk_cell BR4 3).trans (rfl : _ = some (Value.int .i64 0))
  have rf3 := blk_frozen BR4 3
  have p4 := (blk_cell BP4 4).trans (rfl : _ = some (Value.int .i64 val))
  have pf4 := blk_frozen BP4 4
  have r4_ := (blk_cell BR4 4).trans (rfl : _ = some (Value.int .i64 0))
  have rf4 := blk_frozen BR4 4
  have p5 := (blk_cell BP4 5).trans (rfl : _ = some (Value.int .i64 nx))
  have pf5 := blk_frozen BP4 5
  have r5_ := (blk_cell BR4 5).trans (rfl : _ = some (Value.int .i64 0))
  have rf5 := blk_frozen BR4 5
  have p6 := (blk_cell BP4 6).trans (rfl : _ = some (Value.int .i64 best))
  have pf6 := blk_frozen BP4 6
  have r6_ := (blk_cell BR4 6).trans (rfl : _ = some (Value.int .i64 0))
  have rf6 := blk_frozen BR4 6
  have p7 := (blk_cell BP4 7).trans (rfl : _ = some (Value.int .i64 bb))
  have pf7 := blk_frozen BP4 7
  have r7_ := (blk_cell BR4 7).trans (rfl : _ = some (Value.int .i64 0))
  have rf7 := blk_frozen BR4 7
  have BRA := Aside0.mk BR4
  have HBA := Aside0.mk HB4
  clear BP4 BR4 HB4
  go_wp2
  refine bodyPost_ret (v := .tuple #[.agg #[.int .i64 h, .int .i64 v, .int .i64 5, .int .i64 bal, .int .i64 val, .int .i64 nx, .int .i64 best, .int .i64 bb], .slice (some ⟨g, 0, none⟩) 4 cap, .int .i64 15]) ?_ rfl ?_
  · refine resL (by rfl) (by rfl) (by rfl) ?_
    with_reducible refine put8z ?_
    repeat (first | (with_reducible exact BRA.out) | (with_reducible refine blk_far ?_ ?ne _; case ne => ((try dsimp only); omega)))
  · exact ⟨_, rfl, end_read HR4.out HBA.out⟩
set_option maxRecDepth 100000 in
set_option maxHeartbeats 16000000 in
theorem lst_6 (h v bal val nx best bb : Int) (r1 r2 r3 r4 r5 r6 r7 r8 : Int) (lr : List S53) (A1 : Option Addr) (c1 : Nat) (l1 : List S53) (w : World) (hr1 : Kd.C k53 w A1 4 l1) (hl : l1.length = 4) (h0 : 0 ≤ h) (h4 : h < 4) (n0 : 0 ≤ nx) (n4 : nx ≤ 4)
    (hf : (h, v, 6, bal, val, nx, best, bb, l1) = (r1, r2, r3, r4, r5, r6, r7, r8, lr)) :
    Calls Try.prog 37 #[.agg #[.int .i64 h, .int .i64 v, .int .i64 6, .int .i64 bal, .int .i64 val, .int .i64 nx, .int .i64 best, .int .i64 bb], .slice A1 4 c1] w fun e w' => ∃ v8_ : Value, e = .returned (.tuple #[.agg #[.int .i64 r1, .int .i64 r2, .int .i64 r3, .int .i64 r4, .int .i64 r5, .int .i64 r6, .int .i64 r7, .int .i64 r8], v8_, .int .i64 15]) ∧ Kd.R k53 53 w' w.heap.size (fun _ => True) v8_ lr ∧ Below w.heap.size w w' := by
  have hu53 := Try.underlying53
  have hu26 := Try.underlying26
  have HF := Aside0.mk hf
  have HL := Aside0.mk hl
  have HN := Aside0.mk (And.intro n0 n4)
  clear hf hl n0 n4
  go_enter Try.func37, Try.ntmps37
  go_upto_region 1 with fail
  have HB0 := two_below w (.cells #[.int .i64 h, .int .i64 v, .int .i64 6, .int .i64 bal, .int .i64 val, .int .i64 nx, .int .i64 best, .int .i64 bb] 26) (.cells #[.int .i64 0, .int .i64 0, .int .i64 0, .int .i64 0, .int .i64 0, .int .i64 0, .int .i64 0, .int .i64 0] 26)
  have hs0 := two_size w (.cells #[.int .i64 h, .int .i64 v, .int .i64 6, .int .i64 bal, .int .i64 val, .int .i64 nx, .int .i64 best, .int .i64 bb] 26) (.cells #[.int .i64 0, .int .i64 0, .int .i64 0, .int .i64 0, .int .i64 0, .int .i64 0, .int .i64 0, .int .i64 0] 26)
  have BP := two_first w (.cells #[.int .i64 h, .int .i64 v, .int .i64 6, .int .i64 bal, .int .i64 val, .int .i64 nx, .int .i64 best, .int .i64 bb] 26) (.cells #[.int .i64 0, .int .i64 0, .int .i64 0, .int .i64 0, .int .i64 0, .int .i64 0, .int .i64 0, .int .i64 0] 26)
  have BR := two_second w (.cells #[.int .i64 h, .int .i64 v, .int .i64 6, .int .i64 bal, .int .i64 val, .int .i64 nx, .int .i64 best, .int .i64 bb] 26) (.cells #[.int .i64 0, .int .i64 0, .int .i64 0, .int .i64 0, .int .i64 0, .int .i64 0, .int .i64 0, .int .i64 0] 26)
  generalize (w.alloc (.cells #[.int .i64 h, .int .i64 v, .int .i64 6, .int .i64 bal, .int .i64 val, .int .i64 nx, .int .i64 best, .int .i64 bb] 26)).alloc (.cells #[.int .i64 0, .int .i64 0, .int .i64 0, .int .i64 0, .int .i64 0, .int .i64 0, .int .i64 0, .int .i64 0] 26) = W0 at HB0 hs0 BP BR ⊢
  have HR0 := Aside0.mk (Kd.C_below hr1 HB0)
  have HS0 := Aside0.mk hs0
  clear hr1 hs0
  go_upto_region 2 with (first | ((with_reducible refine gate_dst (N := 11) rfl ?_); refine Kd.R_lit k53 _ 53 ?hg (N := 11) ?hd (xs := ([] : List S53)) (inner := []) (ok := fun _ => True) (okp := fun _ => True) ?hr ?hp (fun _ hk => hk) trivial (Below.refl _ _) (Nat.le_refl _) (by simp) ?_; (case hd => rfl); (case hg => rfl); (case hr => first | (go_simp; done) | (go_simp; rfl)); (case hp => exact (Reps.none _ _)); intro v1 w1 ho hb hg_ hnew_; clear hg_ hnew_; have HO1 := Aside0.mk ho; have HB1 := Aside0.mk hb; clear ho hb) | ((with_reducible refine gate_builtin (b := .append) (xs := #[.tmp 11, .tmp 12]) rfl ?_); at_builtin; refine Kd.R_append_rows k53 (w0 := W0) W0.heap.size rfl (.tmp 11) (.tmp 12) 27 53 (.agg #[(.int .i64 0), (.int .i64 0), (.int .i64 0), (.int .i64 0)]) 32 rfl Try.underlying27 infoCloneblock rfl (by decide) (by decide) v1 [] l1 _ _ _ (fun _ => True) (fun _ => False) rfl rfl ?aO ?aR (fun _ _ h => h) (fun _ h => h.elim) ?aF ?aB ?aS ?aL ?_; (case aR => exact Kd.C_below HR0.out HB1.out); (case aB => exact HB1.out); (case aF => exact (fun _ _ => trivial)); (case aO => exact HO1.out); (case aS => exact (below_size HB1.out)); (case aL => simp); intro v2 W4 ho hb hg hat; have HO2 := Aside0.mk ho; have HB2 := Aside0.mk hb; clear ho hb hg hat))
  have HO3 : Kd.R k53 53 W4 W0.heap.size (fun _ => True) v2 l1 := HO2.out
  obtain ⟨g, cap, rfl, hbg, hgl, _⟩ := own_form HO3 (by rw [HL.out]; decide)
  rw [HL.out] at HO3 ⊢
  have HR4 := Aside0.mk (own_low HO3 HS0.out)
  have hg2 : w.heap.size + 2 ≤ g := by have := HS0.out; omega
  have BP4 := blk_below BP HB2.out
  have BR4 := blk_below BR HB2.out
  have HB4 := below_step HB0 HB2.out
  have hs4 : w.heap.size + 2 ≤ W4.heap.size := by have := HB2.out.size; have := HS0.out; omega
  clear BP BR HB0 HO1 HB1 HO2 HB2 HO3 HR0 hbg
  have hf := HF.out
  simp only [Prod.mk.injEq] at hf
  obtain ⟨rfl, rfl, rfl, rfl, rfl, rfl, rfl, rfl, rfl⟩ := hf
  have p0 := (blk_cell BP4 0).trans (rfl : _ = some (Value.int .i64 h))
  have pf0 := blk_frozen BP4 0
  have r0_ := (blk_cell BR4 0).trans (rfl : _ = some (Value.int .i64 0))
  have rf0 := blk_frozen BR4 0
  have p1 := (blk_cell BP4 1).trans (rfl : _ = some (Value.int .i64 v))
  have pf1 := blk_frozen BP4 1
  have r1_ := (blk_cell BR4 1).trans (rfl : _ = some (Value.int .i64 0))
  have rf1 := blk_frozen BR4 1
  have p2 := (blk_cell BP4 2).trans (rfl : _ = some (Value.int .i64 6))
  have pf2 := blk_frozen BP4 2
  have r2_ := (blk_cell BR4 2).trans (rfl : _ = some (Value.int .i64 0))
  have rf2 := blk_frozen BR4 2
  have p3 := (blk_cell BP4 3).trans (rfl : _ = some (Value.int .i64 bal))
  have pf3 := blk_frozen BP4 3
  have r3_ := (blk_cell BR4 3).trans (rfl : _ = some (Value.int .i64 0))
  have rf3 := blk_frozen BR4 3
  have p4 := (blk_cell BP4 4).trans (rfl : _ = some (Value.int .i64 val))
  have pf4 := blk_frozen BP4 4
  have r4_ := (blk_cell BR4 4).trans (rfl : _ = some (Value.int .i64 0))
  have rf4 := blk_frozen BR4 4
  have p5 := (blk_cell BP4 5).trans (rfl : _ = some (Value.int .i64 nx))
  have pf5 := blk_frozen BP4 5
  have r5_ := (blk_cell BR4 5).trans (rfl : _ = some (Value.int .i64 0))
  have rf5 := blk_frozen BR4 5
  have p6 := (blk_cell BP4 6).trans (rfl : _ = some (Value.int .i64 best))
  have pf6 := blk_frozen BP4 6
  have r6_ := (blk_cell BR4 6).trans (rfl : _ = some (Value.int .i64 0))
  have rf6 := blk_frozen BR4 6
  have p7 := (blk_cell BP4 7).trans (rfl : _ = some (Value.int .i64 bb))
  have pf7 := blk_frozen BP4 7
  have r7_ := (blk_cell BR4 7).trans (rfl : _ = some (Value.int .i64 0))
  have rf7 := blk_frozen BR4 7
  have BRA := Aside0.mk BR4
  have HBA := Aside0.mk HB4
  clear BP4 BR4 HB4
  go_wp2
  refine bodyPost_ret (v := .tuple #[.agg #[.int .i64 h, .int .i64 v, .int .i64 6, .int .i64 bal, .int .i64 val, .int .i64 nx, .int .i64 best, .int .i64 bb], .slice (some ⟨g, 0, none⟩) 4 cap, .int .i64 15]) ?_ rfl ?_
  · refine resL (by rfl) (by rfl) (by rfl) ?_
    with_reducible refine put8z ?_
    repeat (first | (with_reducible exact BRA.out) | (with_reducible refine blk_far ?_ ?ne _; case ne => ((try dsimp only); omega)))
  · exact ⟨_, rfl, end_read HR4.out HBA.out⟩
end Go.Proofs.Ytlclbdfcniiolaa.Hand
