/- The law FnExactPxStep: it answers true wherever what it calls comes to what its facts say. -/
import Derived.Test.YtlclbdfcniiolaaQ9
import Derived.Test.YtlclbdfcniiolaaQ12
import Derived.Test.YtlclbdfcniiolaaQ8
import Derived.Test.YtlclbdfcniiolaaQ5
import Derived.Test.YtlclbdfcniiolaaHandSta
namespace Go.Proofs.Ytlclbdfcniiolaa.Hand
open Go.RowKit Go.Proofs.YtlclbdfcniiolaaW.PrintWords Go.Proofs.YtlclbdfcniiolaaW.PrintLast Go.Proofs.YtlclbdfcniiolaaW.PrintMore Go.Proofs.Ytlclbdfcniiolaa.Q
set_option linter.unusedVariables false
set_option linter.unusedSimpArgs false
def laws_FnExactPxStep.F (k : Nat) (a0_0 a0_1 a0_2 a0_3 a0_4 a0_5 a0_6 a0_7 : Int) (l1 : List S59) (r : Bool) : Prop :=
  r = true ∧ ∃ t, laws_szBlockS.f l1 1048576 = some t ∧ (t < 0 ∨ ¬ t < 0 ∧ ∃ (lb lq lm ln : List S53) (q1 q2 q3 q4 q5 q6 q7 q8 c m n : Int), laws_toBlockS.f k l1 = some lb ∧ spec_PxStep.f k a0_0 a0_1 a0_2 a0_3 a0_4 a0_5 a0_6 a0_7 lb = some (q1, q2, q3, q4, q5, q6, q7, q8, lq, c) ∧ impl_PxStep.f k a0_0 a0_1 a0_2 a0_3 a0_4 a0_5 a0_6 a0_7 lb = some (q1, q2, q3, q4, q5, q6, q7, q8, lq, c) ∧ laws_eqBlockS.f k lq lq = some true ∧ laws_eqBlockS.f k lb lb = some true ∧ laws_markBlockS.f k lb 1 = some (m, lm) ∧ ¬ m < 0 ∧ laws_markBlockS.f k lq 1 = some (n, ln) ∧ laws_heldBlockS.f k ln 1 = some n ∧ ¬ n < 0)
set_option maxRecDepth 100000 in
set_option maxHeartbeats 16000000 in
theorem laws_FnExactPxStep.calls (k : Nat) (a0_0 a0_1 a0_2 a0_3 a0_4 a0_5 a0_6 a0_7 : Int) (A1 : Option Addr) (c1 : Nat) (l1 : List S59) (r : Bool) (w : World) (hr1 : Kd.C k59 w A1 l1.length l1) (hc1 : l1.length ≤ c1) (h : laws_FnExactPxStep.F k a0_0 a0_1 a0_2 a0_3 a0_4 a0_5 a0_6 a0_7 l1 r) :
    Calls Try.prog 3 #[.agg #[.int .i64 a0_0, .int .i64 a0_1, .int .i64 a0_2, .int .i64 a0_3, .int .i64 a0_4, .int .i64 a0_5, .int .i64 a0_6, .int .i64 a0_7], .slice A1 l1.length c1] w fun e w' => e = .returned (.bool r) ∧ Below w.heap.size w w' := by
  have hu53 := Try.underlying53
  have hu26 := Try.underlying26
  have hu23 := Try.underlying23
  obtain ⟨rfl, t, hsz, hF⟩ := h
  have HC := Aside0.mk hr1
  have HC1 := Aside0.mk hc1
  have SZ := Aside0.mk hsz
  clear hr1 hc1 hsz
  go_enter Try.func3, Try.ntmps3
  go_upto_region 2 with fail
  have T0 := Aside0.mk ((St.nil w).box (.cells #[.int .i64 a0_0, .int .i64 a0_1, .int .i64 a0_2, .int .i64 a0_3, .int .i64 a0_4, .int .i64 a0_5, .int .i64 a0_6, .int .i64 a0_7] 23))
  have Z0 : w.heap.size < (w.alloc (.cells #[.int .i64 a0_0, .int .i64 a0_1, .int .i64 a0_2, .int .i64 a0_3, .int .i64 a0_4, .int .i64 a0_5, .int .i64 a0_6, .int .i64 a0_7] 23)).heap.size := by simp
  generalize w.alloc (.cells #[.int .i64 a0_0, .int .i64 a0_1, .int .i64 a0_2, .int .i64 a0_3, .int .i64 a0_4, .int .i64 a0_5, .int .i64 a0_6, .int .i64 a0_7] 23) = W0 at T0 Z0 ⊢
  go_upto_region 3 with (first | (go_at_call 9; refine (laws_szBlockS.calls A1 c1 l1 1048576 t _ (Kd.C_below HC.out T0.out.1) HC1.out SZ.out).mono ?_; rintro e W1 ⟨rfl, hd⟩; have Z1 := (hd.below).size; have T1 := Aside0.mk (T0.out.below hd.below); clear hd))
  rcases hF with ht | ⟨ht, lb, lq, lm, ln, q1, q2, q3, q4, q5, q6, q7, q8, c, m, n, f1, f2, f3, f4, f5, f6, f7, f8, f9, f10⟩
  · go_wp2
    go_ret
    exact ⟨rfl, T1.out.1⟩
  have F1 := Aside0.mk f1; have F2 := Aside0.mk f2; have F3 := Aside0.mk f3; have F4 := Aside0.mk f4; have F5 := Aside0.mk f5; have F6 := Aside0.mk f6; have F8 := Aside0.mk f8; have F9 := Aside0.mk f9
  clear f1 f2 f3 f4 f5 f6 f8 f9
  have hx := T1.out.blk (b := w.heap.size) (o := .cells #[.int .i64 a0_0, .int .i64 a0_1, .int .i64 a0_2, .int .i64 a0_3, .int .i64 a0_4, .int .i64 a0_5, .int .i64 a0_6, .int .i64 a0_7] 23 (0, 0)) (by simp)
  have p0 := (blk_cell hx 0).trans (rfl : _ = some (Value.int .i64 a0_0))
  have p1 := (blk_cell hx 1).trans (rfl : _ = some (Value.int .i64 a0_1))
  have p2 := (blk_cell hx 2).trans (rfl : _ = some (Value.int .i64 a0_2))
  have p3 := (blk_cell hx 3).trans (rfl : _ = some (Value.int .i64 a0_3))
  have p4 := (blk_cell hx 4).trans (rfl : _ = some (Value.int .i64 a0_4))
  have p5 := (blk_cell hx 5).trans (rfl : _ = some (Value.int .i64 a0_5))
  have p6 := (blk_cell hx 6).trans (rfl : _ = some (Value.int .i64 a0_6))
  have p7 := (blk_cell hx 7).trans (rfl : _ = some (Value.int .i64 a0_7))
  clear hx
  go_upto_region 6 with (first | (go_at_call 11; refine (laws_toPx.calls a0_0 a0_1 a0_2 a0_3 a0_4 a0_5 a0_6 a0_7 a0_0 a0_1 a0_2 a0_3 a0_4 a0_5 a0_6 a0_7 _ rfl).mono ?_; rintro e W2 ⟨rfl, hb⟩; have Z2 := hb.size; have T2 := Aside0.mk (T1.out.below hb); clear hb) | (go_at_call 12; refine (laws_toBlockS.calls k A1 c1 l1 lb _ (Kd.C_below HC.out T2.out.1) HC1.out F1.out).mono ?_; rintro e W3 ⟨u, rfl, ho, hb⟩; obtain ⟨A3, c3, rfl⟩ := Kd.R_slice ho; have Z3 := hb.size; have T3 := Aside0.mk (T2.out.slice ho hb); clear ho hb) | (go_at_call 10; refine (spec_PxStep.calls k a0_0 a0_1 a0_2 a0_3 a0_4 a0_5 a0_6 a0_7 A3 c3 lb q1 q2 q3 q4 q5 q6 q7 q8 lq c _ (Kd.R_reads' (T3.out.at_ (lo := W2.heap.size) (hi := W3.heap.size) (v := .slice A3 lb.length c3) (l := lb) (by simp))).2.2 (Kd.R_reads' (T3.out.at_ (lo := W2.heap.size) (hi := W3.heap.size) (v := .slice A3 lb.length c3) (l := lb) (by simp))).2.1 F2.out).mono ?_; rintro e W4 ⟨u, rfl, ho, hb⟩; obtain ⟨A4, c4, rfl⟩ := Kd.R_slice ho; have Z4 := hb.size; have T4 := Aside0.mk (T3.out.slice ho hb); clear ho hb))
  clear p0 p1 p2 p3 p4 p5 p6 p7
  have T5 := Aside0.mk (T4.out.box (.cells #[.int .i64 q1, .int .i64 q2, .int .i64 q3, .int .i64 q4, .int .i64 q5, .int .i64 q6, .int .i64 q7, .int .i64 q8] 26))
  have Z5 : W4.heap.size < (W4.alloc (.cells #[.int .i64 q1, .int .i64 q2, .int .i64 q3, .int .i64 q4, .int .i64 q5, .int .i64 q6, .int .i64 q7, .int .i64 q8] 26)).heap.size := by simp
  generalize W4.alloc (.cells #[.int .i64 q1, .int .i64 q2, .int .i64 q3, .int .i64 q4, .int .i64 q5, .int .i64 q6, .int .i64 q7, .int .i64 q8] 26) = W5 at T5 Z5 ⊢
  go_upto_region 7 with (first | (go_at_call 12; refine (laws_toBlockS.calls k A1 c1 l1 lb _ (Kd.C_below HC.out T5.out.1) HC1.out F1.out).mono ?_; rintro e W6 ⟨u, rfl, ho, hb⟩; obtain ⟨A6, c6, rfl⟩ := Kd.R_slice ho; have Z6 := hb.size; have T6 := Aside0.mk (T5.out.slice ho hb); clear ho hb))
  have hx := T6.out.blk (b := w.heap.size) (o := .cells #[.int .i64 a0_0, .int .i64 a0_1, .int .i64 a0_2, .int .i64 a0_3, .int .i64 a0_4, .int .i64 a0_5, .int .i64 a0_6, .int .i64 a0_7] 23 (0, 0)) (by simp)
  have p0 := (blk_cell hx 0).trans (rfl : _ = some (Value.int .i64 a0_0))
  have p1 := (blk_cell hx 1).trans (rfl : _ = some (Value.int .i64 a0_1))
  have p2 := (blk_cell hx 2).trans (rfl : _ = some (Value.int .i64 a0_2))
  have p3 := (blk_cell hx 3).trans (rfl : _ = some (Value.int .i64 a0_3))
  have p4 := (blk_cell hx 4).trans (rfl : _ = some (Value.int .i64 a0_4))
  have p5 := (blk_cell hx 5).trans (rfl : _ = some (Value.int .i64 a0_5))
  have p6 := (blk_cell hx 6).trans (rfl : _ = some (Value.int .i64 a0_6))
  have p7 := (blk_cell hx 7).trans (rfl : _ = some (Value.int .i64 a0_7))
  clear hx
  go_upto_region 8 with (first | (go_at_call 11; refine (laws_toPx.calls a0_0 a0_1 a0_2 a0_3 a0_4 a0_5 a0_6 a0_7 a0_0 a0_1 a0_2 a0_3 a0_4 a0_5 a0_6 a0_7 _ rfl).mono ?_; rintro e W7 ⟨rfl, hb⟩; have Z7 := hb.size; have T7 := Aside0.mk (T6.out.below hb); clear hb) | (go_at_call 13; refine (impl_PxStep.calls k a0_0 a0_1 a0_2 a0_3 a0_4 a0_5 a0_6 a0_7 A6 c6 lb q1 q2 q3 q4 q5 q6 q7 q8 lq c _ (Kd.R_reads' (T7.out.at_ (lo := W5.heap.size) (hi := W6.heap.size) (v := .slice A6 lb.length c6) (l := lb) (by simp))).2.2 (Kd.R_reads' (T7.out.at_ (lo := W5.heap.size) (hi := W6.heap.size) (v := .slice A6 lb.length c6) (l := lb) (by simp))).2.1 F3.out).mono ?_; rintro e W8 ⟨u, rfl, ho, hb⟩; obtain ⟨A8, c8, rfl⟩ := Kd.R_slice ho; have Z8 := hb.size; have T8 := Aside0.mk (T7.out.slice ho hb); clear ho hb))
  clear p0 p1 p2 p3 p4 p5 p6 p7
  have T9 := Aside0.mk (T8.out.box (.cells #[.int .i64 q1, .int .i64 q2, .int .i64 q3, .int .i64 q4, .int .i64 q5, .int .i64 q6, .int .i64 q7, .int .i64 q8] 26))
  have Z9 : W8.heap.size < (W8.alloc (.cells #[.int .i64 q1, .int .i64 q2, .int .i64 q3, .int .i64 q4, .int .i64 q5, .int .i64 q6, .int .i64 q7, .int .i64 q8] 26)).heap.size := by simp
  generalize W8.alloc (.cells #[.int .i64 q1, .int .i64 q2, .int .i64 q3, .int .i64 q4, .int .i64 q5, .int .i64 q6, .int .i64 q7, .int .i64 q8] 26) = W9 at T9 Z9 ⊢
  have hx := T9.out.blk (b := W8.heap.size) (o := .cells #[.int .i64 q1, .int .i64 q2, .int .i64 q3, .int .i64 q4, .int .i64 q5, .int .i64 q6, .int .i64 q7, .int .i64 q8] 26 (0, 0)) (by simp)
  have x0 := (blk_cell hx 0).trans (rfl : _ = some (Value.int .i64 q1))
  have x1 := (blk_cell hx 1).trans (rfl : _ = some (Value.int .i64 q2))
  have x2 := (blk_cell hx 2).trans (rfl : _ = some (Value.int .i64 q3))
  have x3 := (blk_cell hx 3).trans (rfl : _ = some (Value.int .i64 q4))
  have x4 := (blk_cell hx 4).trans (rfl : _ = some (Value.int .i64 q5))
  have x5 := (blk_cell hx 5).trans (rfl : _ = some (Value.int .i64 q6))
  have x6 := (blk_cell hx 6).trans (rfl : _ = some (Value.int .i64 q7))
  have x7 := (blk_cell hx 7).trans (rfl : _ = some (Value.int .i64 q8))
  clear hx
  have hx := T9.out.blk (b := W4.heap.size) (o := .cells #[.int .i64 q1, .int .i64 q2, .int .i64 q3, .int .i64 q4, .int .i64 q5, .int .i64 q6, .int .i64 q7, .int .i64 q8] 26 (0, 0)) (by simp)
  have y0 := (blk_cell hx 0).trans (rfl : _ = some (Value.int .i64 q1))
  have y1 := (blk_cell hx 1).trans (rfl : _ = some (Value.int .i64 q2))
  have y2 := (blk_cell hx 2).trans (rfl : _ = some (Value.int .i64 q3))
  have y3 := (blk_cell hx 3).trans (rfl : _ = some (Value.int .i64 q4))
  have y4 := (blk_cell hx 4).trans (rfl : _ = some (Value.int .i64 q5))
  have y5 := (blk_cell hx 5).trans (rfl : _ = some (Value.int .i64 q6))
  have y6 := (blk_cell hx 6).trans (rfl : _ = some (Value.int .i64 q7))
  have y7 := (blk_cell hx 7).trans (rfl : _ = some (Value.int .i64 q8))
  clear hx
  go_upto_region 10 with (first | (go_at_call 14; refine (laws_eqPx.calls q1 q2 q3 q4 q5 q6 q7 q8 q1 q2 q3 q4 q5 q6 q7 q8 true _ (by simp [laws_eqPx.f])).mono ?_; rintro e W10 ⟨rfl, hb⟩; have Z10 := hb.size; have T10 := Aside0.mk (T9.out.below hb); clear hb) | (go_at_call 15; refine (laws_eqBlockS.calls k A8 c8 lq A4 c4 lq true _ (Kd.R_reads' (T10.out.at_ (lo := W7.heap.size) (hi := W8.heap.size) (v := .slice A8 lq.length c8) (l := lq) (by simp))).2.2 (Kd.R_reads' (T10.out.at_ (lo := W7.heap.size) (hi := W8.heap.size) (v := .slice A8 lq.length c8) (l := lq) (by simp))).2.1 (Kd.R_reads' (T10.out.at_ (lo := W3.heap.size) (hi := W4.heap.size) (v := .slice A4 lq.length c4) (l := lq) (by simp))).2.2 (Kd.R_reads' (T10.out.at_ (lo := W3.heap.size) (hi := W4.heap.size) (v := .slice A4 lq.length c4) (l := lq) (by simp))).2.1 F4.out).mono ?_; rintro e W11 ⟨rfl, hb⟩; have Z11 := hb.size; have T11 := Aside0.mk (T10.out.below hb); clear hb))
  clear x0 x1 x2 x3 x4 x5 x6 x7 y0 y1 y2 y3 y4 y5 y6 y7
  go_upto_region 13 with (first | (go_at_call 12; refine (laws_toBlockS.calls k A1 c1 l1 lb _ (Kd.C_below HC.out T11.out.1) HC1.out F1.out).mono ?_; rintro e W12 ⟨u, rfl, ho, hb⟩; obtain ⟨A12, c12, rfl⟩ := Kd.R_slice ho; have Z12 := hb.size; have T12 := Aside0.mk (T11.out.slice ho hb); clear ho hb) | (go_at_call 15; refine (laws_eqBlockS.calls k A6 c6 lb A12 c12 lb true _ (Kd.R_reads' (T12.out.at_ (lo := W5.heap.size) (hi := W6.heap.size) (v := .slice A6 lb.length c6) (l := lb) (by simp))).2.2 (Kd.R_reads' (T12.out.at_ (lo := W5.heap.size) (hi := W6.heap.size) (v := .slice A6 lb.length c6) (l := lb) (by simp))).2.1 (Kd.R_reads' (T12.out.at_ (lo := W11.heap.size) (hi := W12.heap.size) (v := .slice A12 lb.length c12) (l := lb) (by simp))).2.2 (Kd.R_reads' (T12.out.at_ (lo := W11.heap.size) (hi := W12.heap.size) (v := .slice A12 lb.length c12) (l := lb) (by simp))).2.1 F5.out).mono ?_; rintro e W13 ⟨rfl, hb⟩; have Z13 := hb.size; have T13 := Aside0.mk (T12.out.below hb); clear hb))
  have T13' := Aside0.mk (T13.out.less (bl' := [(W8.heap.size, .cells #[.int .i64 q1, .int .i64 q2, .int .i64 q3, .int .i64 q4, .int .i64 q5, .int .i64 q6, .int .i64 q7, .int .i64 q8] 26 (0, 0)), (W4.heap.size, .cells #[.int .i64 q1, .int .i64 q2, .int .i64 q3, .int .i64 q4, .int .i64 q5, .int .i64 q6, .int .i64 q7, .int .i64 q8] 26 (0, 0)), (w.heap.size, .cells #[.int .i64 a0_0, .int .i64 a0_1, .int .i64 a0_2, .int .i64 a0_3, .int .i64 a0_4, .int .i64 a0_5, .int .i64 a0_6, .int .i64 a0_7] 23 (0, 0))]) (sl' := [(W5.heap.size, W6.heap.size, .slice A6 lb.length c6, lb), (W7.heap.size, W8.heap.size, .slice A8 lq.length c8, lq), (W3.heap.size, W4.heap.size, .slice A4 lq.length c4, lq)]) (by simp) (by simp))
  go_upto_region 14 with (first | (go_at_call 16; refine (laws_markBlockS.calls k (fun k => W5.heap.size ≤ k ∧ k < W6.heap.size) (.slice A6 lb.length c6) lb 1 m lm w _ T13.out.1 (T13'.out.at_ (by simp)) F6.out).mono ?_; rintro e W14 ⟨rfl, hr, hb, hk⟩; have Z14 := hk.1; have T14 := Aside0.mk (T13'.out.marked hr hb hk (by simp only [List.forall_mem_cons, List.not_mem_nil, false_imp_iff, implies_true, and_true]; omega) (by simp only [List.forall_mem_cons, List.not_mem_nil, false_imp_iff, implies_true, and_true]; omega)); clear hr hb hk))
  have hx := T14.out.blk (b := W8.heap.size) (o := .cells #[.int .i64 q1, .int .i64 q2, .int .i64 q3, .int .i64 q4, .int .i64 q5, .int .i64 q6, .int .i64 q7, .int .i64 q8] 26 (0, 0)) (by simp)
  have x0 := (blk_cell hx 0).trans (rfl : _ = some (Value.int .i64 q1))
  have x1 := (blk_cell hx 1).trans (rfl : _ = some (Value.int .i64 q2))
  have x2 := (blk_cell hx 2).trans (rfl : _ = some (Value.int .i64 q3))
  have x3 := (blk_cell hx 3).trans (rfl : _ = some (Value.int .i64 q4))
  have x4 := (blk_cell hx 4).trans (rfl : _ = some (Value.int .i64 q5))
  have x5 := (blk_cell hx 5).trans (rfl : _ = some (Value.int .i64 q6))
  have x6 := (blk_cell hx 6).trans (rfl : _ = some (Value.int .i64 q7))
  have x7 := (blk_cell hx 7).trans (rfl : _ = some (Value.int .i64 q8))
  clear hx
  have hx := T14.out.blk (b := W4.heap.size) (o := .cells #[.int .i64 q1, .int .i64 q2, .int .i64 q3, .int .i64 q4, .int .i64 q5, .int .i64 q6, .int .i64 q7, .int .i64 q8] 26 (0, 0)) (by simp)
  have y0 := (blk_cell hx 0).trans (rfl : _ = some (Value.int .i64 q1))
  have y1 := (blk_cell hx 1).trans (rfl : _ = some (Value.int .i64 q2))
  have y2 := (blk_cell hx 2).trans (rfl : _ = some (Value.int .i64 q3))
  have y3 := (blk_cell hx 3).trans (rfl : _ = some (Value.int .i64 q4))
  have y4 := (blk_cell hx 4).trans (rfl : _ = some (Value.int .i64 q5))
  have y5 := (blk_cell hx 5).trans (rfl : _ = some (Value.int .i64 q6))
  have y6 := (blk_cell hx 6).trans (rfl : _ = some (Value.int .i64 q7))
  have y7 := (blk_cell hx 7).trans (rfl : _ = some (Value.int .i64 q8))
  clear hx
  have hm : ¬ m < 0 := by omega
  go_upto_region 17 with (first | (go_at_call 14; refine (laws_eqPx.calls q1 q2 q3 q4 q5 q6 q7 q8 q1 q2 q3 q4 q5 q6 q7 q8 true _ (by simp [laws_eqPx.f])).mono ?_; rintro e W15 ⟨rfl, hb⟩; have Z15 := hb.size; have T15 := Aside0.mk (T14.out.below hb); clear hb) | (go_at_call 15; refine (laws_eqBlockS.calls k A8 c8 lq A4 c4 lq true _ (Kd.R_reads' (T15.out.at_ (lo := W7.heap.size) (hi := W8.heap.size) (v := .slice A8 lq.length c8) (l := lq) (by simp))).2.2 (Kd.R_reads' (T15.out.at_ (lo := W7.heap.size) (hi := W8.heap.size) (v := .slice A8 lq.length c8) (l := lq) (by simp))).2.1 (Kd.R_reads' (T15.out.at_ (lo := W3.heap.size) (hi := W4.heap.size) (v := .slice A4 lq.length c4) (l := lq) (by simp))).2.2 (Kd.R_reads' (T15.out.at_ (lo := W3.heap.size) (hi := W4.heap.size) (v := .slice A4 lq.length c4) (l := lq) (by simp))).2.1 F4.out).mono ?_; rintro e W16 ⟨rfl, hb⟩; have Z16 := hb.size; have T16 := Aside0.mk (T15.out.below hb); clear hb))
  clear x0 x1 x2 x3 x4 x5 x6 x7 y0 y1 y2 y3 y4 y5 y6 y7
  have T16' := Aside0.mk (T16.out.less (bl' := [(W8.heap.size, .cells #[.int .i64 q1, .int .i64 q2, .int .i64 q3, .int .i64 q4, .int .i64 q5, .int .i64 q6, .int .i64 q7, .int .i64 q8] 26 (0, 0)), (W4.heap.size, .cells #[.int .i64 q1, .int .i64 q2, .int .i64 q3, .int .i64 q4, .int .i64 q5, .int .i64 q6, .int .i64 q7, .int .i64 q8] 26 (0, 0)), (w.heap.size, .cells #[.int .i64 a0_0, .int .i64 a0_1, .int .i64 a0_2, .int .i64 a0_3, .int .i64 a0_4, .int .i64 a0_5, .int .i64 a0_6, .int .i64 a0_7] 23 (0, 0))]) (sl' := [(W7.heap.size, W8.heap.size, .slice A8 lq.length c8, lq), (W3.heap.size, W4.heap.size, .slice A4 lq.length c4, lq)]) (by simp) (by simp))
  go_upto_region 18 with (first | (go_at_call 16; refine (laws_markBlockS.calls k (fun k => W7.heap.size ≤ k ∧ k < W8.heap.size) (.slice A8 lq.length c8) lq 1 n ln w _ T16.out.1 (T16'.out.at_ (by simp)) F8.out).mono ?_; rintro e W17 ⟨rfl, hr, hb, hk⟩; have Z17 := hk.1; have T17 := Aside0.mk (T16'.out.marked hr hb hk (by simp only [List.forall_mem_cons, List.not_mem_nil, false_imp_iff, implies_true, and_true]; omega) (by simp only [List.forall_mem_cons, List.not_mem_nil, false_imp_iff, implies_true, and_true]; omega)); clear hr hb hk))
  have hq := laws_heldBlockS.calls k A8 c8 ln 1 n W17 (Kd.R_reads' (T17.out.at_ (lo := W7.heap.size) (hi := W8.heap.size) (v := .slice A8 lq.length c8) (l := ln) (by simp))).2.2 (by rw [← (Kd.R_reads' (T17.out.at_ (lo := W7.heap.size) (hi := W8.heap.size) (v := .slice A8 lq.length c8) (l := ln) (by simp))).1]; exact (Kd.R_reads' (T17.out.at_ (lo := W7.heap.size) (hi := W8.heap.size) (v := .slice A8 lq.length c8) (l := ln) (by simp))).2.1) F9.out
  rw [← (Kd.R_reads' (T17.out.at_ (lo := W7.heap.size) (hi := W8.heap.size) (v := .slice A8 lq.length c8) (l := ln) (by simp))).1] at hq
  have HQ17 := Aside0.mk hq
  clear hq
  go_upto_region 20 with (first | (go_at_call 17; refine (HQ17.out).mono ?_; rintro e W18 ⟨rfl, hd⟩; have Z18 := (hd.below).size; have T18 := Aside0.mk (T17.out.below hd.below); clear hd))
  have hn : ¬ n < 0 := by omega
  go_upto_region 24 with fail
  have hx := T18.out.blk (b := w.heap.size) (o := .cells #[.int .i64 a0_0, .int .i64 a0_1, .int .i64 a0_2, .int .i64 a0_3, .int .i64 a0_4, .int .i64 a0_5, .int .i64 a0_6, .int .i64 a0_7] 23 (0, 0)) (by simp)
  have p0 := (blk_cell hx 0).trans (rfl : _ = some (Value.int .i64 a0_0))
  have p1 := (blk_cell hx 1).trans (rfl : _ = some (Value.int .i64 a0_1))
  have p2 := (blk_cell hx 2).trans (rfl : _ = some (Value.int .i64 a0_2))
  have p3 := (blk_cell hx 3).trans (rfl : _ = some (Value.int .i64 a0_3))
  have p4 := (blk_cell hx 4).trans (rfl : _ = some (Value.int .i64 a0_4))
  have p5 := (blk_cell hx 5).trans (rfl : _ = some (Value.int .i64 a0_5))
  have p6 := (blk_cell hx 6).trans (rfl : _ = some (Value.int .i64 a0_6))
  have p7 := (blk_cell hx 7).trans (rfl : _ = some (Value.int .i64 a0_7))
  clear hx
  go_upto_region 25 with (first | (go_at_call 11; refine (laws_toPx.calls a0_0 a0_1 a0_2 a0_3 a0_4 a0_5 a0_6 a0_7 a0_0 a0_1 a0_2 a0_3 a0_4 a0_5 a0_6 a0_7 _ rfl).mono ?_; rintro e W19 ⟨rfl, hb⟩; have Z19 := hb.size; have T19 := Aside0.mk (T18.out.below hb); clear hb) | (go_at_call 12; refine (laws_toBlockS.calls k A1 c1 l1 lb _ (Kd.C_below HC.out T19.out.1) HC1.out F1.out).mono ?_; rintro e W20 ⟨u, rfl, ho, hb⟩; obtain ⟨A20, c20, rfl⟩ := Kd.R_slice ho; have Z20 := hb.size; have T20 := Aside0.mk (T19.out.slice ho hb); clear ho hb) | (go_at_call 13; refine (impl_PxStep.calls k a0_0 a0_1 a0_2 a0_3 a0_4 a0_5 a0_6 a0_7 A20 c20 lb q1 q2 q3 q4 q5 q6 q7 q8 lq c _ (Kd.R_reads' (T20.out.at_ (lo := W19.heap.size) (hi := W20.heap.size) (v := .slice A20 lb.length c20) (l := lb) (by simp))).2.2 (Kd.R_reads' (T20.out.at_ (lo := W19.heap.size) (hi := W20.heap.size) (v := .slice A20 lb.length c20) (l := lb) (by simp))).2.1 F3.out).mono ?_; rintro e W21 ⟨u, rfl, ho, hb⟩; obtain ⟨A21, c21, rfl⟩ := Kd.R_slice ho; have Z21 := hb.size; have T21 := Aside0.mk (T20.out.slice ho hb); clear ho hb))
  clear p0 p1 p2 p3 p4 p5 p6 p7
  have T22 := Aside0.mk (T21.out.box (.cells #[.int .i64 q1, .int .i64 q2, .int .i64 q3, .int .i64 q4, .int .i64 q5, .int .i64 q6, .int .i64 q7, .int .i64 q8] 26))
  have Z22 : W21.heap.size < (W21.alloc (.cells #[.int .i64 q1, .int .i64 q2, .int .i64 q3, .int .i64 q4, .int .i64 q5, .int .i64 q6, .int .i64 q7, .int .i64 q8] 26)).heap.size := by simp
  generalize W21.alloc (.cells #[.int .i64 q1, .int .i64 q2, .int .i64 q3, .int .i64 q4, .int .i64 q5, .int .i64 q6, .int .i64 q7, .int .i64 q8] 26) = W22 at T22 Z22 ⊢
  have hx := T22.out.blk (b := W21.heap.size) (o := .cells #[.int .i64 q1, .int .i64 q2, .int .i64 q3, .int .i64 q4, .int .i64 q5, .int .i64 q6, .int .i64 q7, .int .i64 q8] 26 (0, 0)) (by simp)
  have x0 := (blk_cell hx 0).trans (rfl : _ = some (Value.int .i64 q1))
  have x1 := (blk_cell hx 1).trans (rfl : _ = some (Value.int .i64 q2))
  have x2 := (blk_cell hx 2).trans (rfl : _ = some (Value.int .i64 q3))
  have x3 := (blk_cell hx 3).trans (rfl : _ = some (Value.int .i64 q4))
  have x4 := (blk_cell hx 4).trans (rfl : _ = some (Value.int .i64 q5))
  have x5 := (blk_cell hx 5).trans (rfl : _ = some (Value.int .i64 q6))
  have x6 := (blk_cell hx 6).trans (rfl : _ = some (Value.int .i64 q7))
  have x7 := (blk_cell hx 7).trans (rfl : _ = some (Value.int .i64 q8))
  clear hx
  have hx := T22.out.blk (b := W4.heap.size) (o := .cells #[.int .i64 q1, .int .i64 q2, .int .i64 q3, .int .i64 q4, .int .i64 q5, .int .i64 q6, .int .i64 q7, .int .i64 q8] 26 (0, 0)) (by simp)
  have y0 := (blk_cell hx 0).trans (rfl : _ = some (Value.int .i64 q1))
  have y1 := (blk_cell hx 1).trans (rfl : _ = some (Value.int .i64 q2))
  have y2 := (blk_cell hx 2).trans (rfl : _ = some (Value.int .i64 q3))
  have y3 := (blk_cell hx 3).trans (rfl : _ = some (Value.int .i64 q4))
  have y4 := (blk_cell hx 4).trans (rfl : _ = some (Value.int .i64 q5))
  have y5 := (blk_cell hx 5).trans (rfl : _ = some (Value.int .i64 q6))
  have y6 := (blk_cell hx 6).trans (rfl : _ = some (Value.int .i64 q7))
  have y7 := (blk_cell hx 7).trans (rfl : _ = some (Value.int .i64 q8))
  clear hx
  go_upto_region 28 with (first | (go_at_call 14; refine (laws_eqPx.calls q1 q2 q3 q4 q5 q6 q7 q8 q1 q2 q3 q4 q5 q6 q7 q8 true _ (by simp [laws_eqPx.f])).mono ?_; rintro e W23 ⟨rfl, hb⟩; have Z23 := hb.size; have T23 := Aside0.mk (T22.out.below hb); clear hb) | (go_at_call 15; refine (laws_eqBlockS.calls k A21 c21 lq A4 c4 lq true _ (Kd.R_reads' (T23.out.at_ (lo := W20.heap.size) (hi := W21.heap.size) (v := .slice A21 lq.length c21) (l := lq) (by simp))).2.2 (Kd.R_reads' (T23.out.at_ (lo := W20.heap.size) (hi := W21.heap.size) (v := .slice A21 lq.length c21) (l := lq) (by simp))).2.1 (Kd.R_reads' (T23.out.at_ (lo := W3.heap.size) (hi := W4.heap.size) (v := .slice A4 lq.length c4) (l := lq) (by simp))).2.2 (Kd.R_reads' (T23.out.at_ (lo := W3.heap.size) (hi := W4.heap.size) (v := .slice A4 lq.length c4) (l := lq) (by simp))).2.1 F4.out).mono ?_; rintro e W24 ⟨rfl, hb⟩; have Z24 := hb.size; have T24 := Aside0.mk (T23.out.below hb); clear hb))
  clear x0 x1 x2 x3 x4 x5 x6 x7 y0 y1 y2 y3 y4 y5 y6 y7
  have hq := laws_heldBlockS.calls k A8 c8 ln 1 n W24 (Kd.R_reads' (T24.out.at_ (lo := W7.heap.size) (hi := W8.heap.size) (v := .slice A8 lq.length c8) (l := ln) (by simp))).2.2 (by rw [← (Kd.R_reads' (T24.out.at_ (lo := W7.heap.size) (hi := W8.heap.size) (v := .slice A8 lq.length c8) (l := ln) (by simp))).1]; exact (Kd.R_reads' (T24.out.at_ (lo := W7.heap.size) (hi := W8.heap.size) (v := .slice A8 lq.length c8) (l := ln) (by simp))).2.1) F9.out
  rw [← (Kd.R_reads' (T24.out.at_ (lo := W7.heap.size) (hi := W8.heap.size) (v := .slice A8 lq.length c8) (l := ln) (by simp))).1] at hq
  have HQ24 := Aside0.mk hq
  clear hq
  go_upto_region 33 with (first | (go_at_call 17; refine (HQ24.out).mono ?_; rintro e W25 ⟨rfl, hd⟩; have Z25 := (hd.below).size; have T25 := Aside0.mk (T24.out.below hd.below); clear hd))
  go_wp2
  go_ret
  exact ⟨rfl, T25.out.1⟩
end Go.Proofs.Ytlclbdfcniiolaa.Hand
