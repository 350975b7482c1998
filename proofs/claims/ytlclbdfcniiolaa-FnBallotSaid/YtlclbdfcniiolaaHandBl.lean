/- The law FnBallot: it answers true wherever what it calls comes to what its facts say. -/
import Derived.Test.YtlclbdfcniiolaaQ3
import Derived.Test.YtlclbdfcniiolaaQ4
import Derived.Test.YtlclbdfcniiolaaQ2
import Derived.Test.YtlclbdfcniiolaaHandSta
import Derived.BigQuiet
import Derived.BigRegion
import Derived.RegionCalls
import Derived.Deep.RegionWith
import Derived.Deep.DrawnRows
namespace Go.Proofs.Ytlclbdfcniiolaa.Hand
open Go.RowKit Go.Proofs.YtlclbdfcniiolaaW.PrintWords Go.Proofs.YtlclbdfcniiolaaW.PrintLast Go.Proofs.YtlclbdfcniiolaaW.PrintMore Go.Proofs.Ytlclbdfcniiolaa.Q
set_option linter.unusedVariables false
set_option linter.unusedSimpArgs false
attribute [local go_sem ↓] Go.wp_at_zero Go.wp_at_succ
def laws_FnBallot.F (k : Nat) (l0 l1 : List Int) (r : Bool) : Prop :=
  r = true ∧ ((l0.length : Int) > 1048576 ∨ (¬ (l0.length : Int) > 1048576 ∧ (l1.length : Int) > 1048576) ∨ (¬ (l0.length : Int) > 1048576 ∧ ¬ (l1.length : Int) > 1048576 ∧ ∃ (p0 p1 p2 p3 p4 p5 p6 p7 n c q1 q2 q3 q4 q5 q6 q7 q8 : Int) (lb lq : List S53), spec_PxOf.f l0 = some (p0, p1, p2, p3, p4, p5, p6, p7) ∧ spec_BlocksOf.f l1 = some lb ∧ impl_NextBallot.f k p0 p1 lb = some (n, 0) ∧ impl_PxStep.f k p0 p1 p2 p3 p4 p5 p6 p7 lb = some (q1, q2, q3, q4, q5, q6, q7, q8, lq, c) ∧ spec_PxStep.f k p0 p1 p2 p3 p4 p5 p6 p7 lb = some (q1, q2, q3, q4, q5, q6, q7, q8, lq, c) ∧ Int.tmod n 4 = p0 ∧ laws_sameBlocks.f k lq lq = some true ∧ lq.length = 4 ∧ lb.length = 4 ∧ impl_PxOK.f q1 q2 q3 q4 q5 q6 q7 q8 = some true ∧ (∀ h : Int, 0 ≤ h → h < 4 → ¬ (p1 ≤ (rd_T53 lb h).f0 ∧ n ≤ (rd_T53 lb h).f1) ∧ (h ≠ p0 → rd_T53 lq h = rd_T53 lb h) ∧ impl_BlockOK.f (rd_T53 lq h).f0 (rd_T53 lq h).f1 (rd_T53 lq h).f2 (rd_T53 lq h).f3 = some true ∧ ((rd_T53 lq h).f0 = (rd_T53 lb h).f0 → ¬ (rd_T53 lq h).f1 < (rd_T53 lb h).f1)) ∧ impl_PxStart.f p0 p1 n p4 = some (p0, p1, 1, n, p4, 0, 0, 0, 0)))
/-! the region of the law's loop that draws its order: its operations are taken one by one, in the order in which they stand -/
def bt (k : Nat) : Array Bool := ((List.range 68).map (fun i => decide (i < k))).toArray
section
variable {P : Program} {md : Region.Mode} {ops : Array Oper} {Q : Exit → Act → World → Prop} {S : World → Prop} {ds B : List Nat} {T : Bool × List (List Nat × List Nat)}
theorem nxtP {i fuel : Nat} {oi : Oper} {v : Value} {a : Act} {w : World} (hi : ops[i]? = some oi) (hN : oi.dst = some (92 + i)) (hT : rtab md ops = T) (hc : anyT T (bt i).toList (bt (i + 1)).toList i = true) (hQ : ∀ c a w, Q (.panic c) (a.put oi.dst v) w → Q (.panic c) a w) (hw : Region.wanted oi (yielded ops a.tmps) = true) (hy : ∀ w', (execOp a.eval oi).run P w' = .ok (.value v) w') {a' : Act} (ha : a.put (some (92 + i)) v = a') (h : wpAnyLast P md ops Q S ds fuel (bt (i + 1)) a' w) : wpAnyLast P md ops Q S ds (fuel + 1) (bt i) a w :=
  pure_ (bt (i + 1)) hi hN (any_of hT hc) hQ (Or.inl ⟨hw, hy⟩) ha h
theorem nxtOff {i fuel : Nat} {oi : Oper} {a : Act} {w : World} (hi : ops[i]? = some oi) (hN : oi.dst = some (92 + i)) (hT : rtab md ops = T) (hc : anyT T (bt i).toList (bt (i + 1)).toList i = true) (hQ : ∀ c a w, Q (.panic c) (a.put oi.dst undef) w → Q (.panic c) a w) (hw : Region.wanted oi (yielded ops a.tmps) = false) {a' : Act} (ha : a.put (some (92 + i)) undef = a') (h : wpAnyLast P md ops Q S ds fuel (bt (i + 1)) a' w) : wpAnyLast P md ops Q S ds (fuel + 1) (bt i) a w :=
  pure_ (bt (i + 1)) hi hN (any_of hT hc) hQ (Or.inr ⟨hw, rfl⟩) ha h
theorem nxtT {i fuel : Nat} {oi : Oper} {v : Value} {a : Act} {w : World} (hi : ops[i]? = some oi) (hN : oi.dst = some (92 + i)) (hT : rtab md ops = T) (hB : waitsOk T.2 B = true) (hc : takeW T B ds (bt i).toList (bt (i + 1)).toList i = true) (hQ : ∀ c a w, Q (.panic c) (a.put oi.dst v) w → Q (.panic c) a w) (hw : Region.wanted oi (yielded ops a.tmps) = true) (hy : ∀ w', S w' → (execOp a.eval oi).run P w' = .ok (.value v) w') (hS : S w) {a' : Act} (ha : a.put (some (92 + i)) v = a') (h : wpAnyLast P md ops Q S ds fuel (bt (i + 1)) a' w) : wpAnyLast P md ops Q S ds (fuel + 1) (bt i) a w :=
  take_ (bt (i + 1)) hi hN (take_ofW hT hB hc) hQ (Or.inl ⟨hw, hy⟩) hS ha h
end
def laws_FnBallot.T13 : Bool × List (List Nat × List Nat) := (true, [([], []), ([], []), ([0, 1], [0, 1]), ([2], [2]), ([3], [3]), ([], []), ([5], [5]), ([4, 6], [4, 6]), ([7], [7]), ([8], [8]), ([8], [8]), ([9, 10, 8], [8, 9, 10]), ([11, 8], [8, 11]), ([12, 8], [8, 12]), ([8], [8]), ([13, 14, 8], [8, 13, 14]), ([8, 15], [8, 15]), ([16, 8], [16]), ([17], [17]), ([17], [17]), ([19, 17], [17, 19]), ([18, 20, 17], [17, 18, 20]), ([21, 17, 17], [17, 21]), ([22], [22]), ([22], [22]), ([23, 24, 22], [22, 23, 24]), ([25, 22], [22, 25]), ([22], [22]), ([22], [22]), ([27, 28, 22], [22, 27, 28]), ([29, 22], [22, 29]), ([26, 30, 22], [22, 26, 30]), ([22, 31, 17], [17, 22, 31]), ([17, 32], [17, 32]), ([33, 22], [33]), ([34], [34]), ([34], [34]), ([35, 36, 34], [34, 35, 36]), ([37, 34], [34, 37]), ([38, 34, 34], [34, 38]), ([39, 34], [34, 39]), ([34, 40], [34, 40]), ([41, 39], [41]), ([42], [42]), ([42], [42]), ([43, 44, 42], [42, 43, 44]), ([45, 42], [42, 45]), ([46, 42], [42, 46]), ([42], [42]), ([42], [42]), ([48, 49, 42], [42, 48, 49]), ([50, 42], [42, 50]), ([51, 42], [42, 51]), ([47, 52, 42], [42, 47, 52]), ([53, 42, 42], [42, 53]), ([54], [54]), ([54], [54]), ([55, 56, 54], [54, 55, 56]), ([57, 54], [54, 57]), ([58, 54], [54, 58]), ([54], [54]), ([54], [54]), ([60, 61, 54], [54, 60, 61]), ([62, 54], [54, 62]), ([63, 54], [54, 63]), ([59, 64, 54], [54, 59, 64]), ([54, 65, 42], [42, 54, 65]), ([42, 66], [42, 66])])
def laws_FnBallot.B13 : List Nat := [0, 0, 3, 7, 15, 0, 32, 127, 255, 511, 511, 2047, 4095, 8191, 511, 32767, 65535, 131071, 262143, 262143, 786431, 2097151, 4194303, 8388607, 8388607, 33554431, 67108863, 8388607, 8388607, 411041791, 947912703, 2147483647, 4294967295, 8589934591, 17179869183, 34359738367, 34359738367, 137438953471, 274877906943, 549755813887, 1099511627775, 2199023255551, 4398046511103, 8796093022207, 8796093022207, 35184372088831, 70368744177663, 140737488355327, 8796093022207, 8796093022207, 853221023154175, 1979120929996799, 4230920743682047, 9007199254740991, 18014398509481983, 36028797018963967, 36028797018963967, 144115188075855871, 288230376151711743, 576460752303423487, 36028797018963967, 36028797018963967, 3494793310839504895, 8106479329266892799, 17329851366121668607, 36893488147419103231, 73786976294838206463, 147573952589676412927]
theorem laws_FnBallot.tab13 : rtab .any (opsOf Try.f8 13) = laws_FnBallot.T13 := by kernel_rfl
theorem laws_FnBallot.bits13 : waitsOk laws_FnBallot.T13.2 laws_FnBallot.B13 = true := by kernel_rfl
set_option maxRecDepth 100000 in
set_option maxHeartbeats 64000000 in
theorem laws_FnBallot.calls (k : Nat) (A0 : Option Addr) (c0 : Nat) (l0 : List Int) (A1 : Option Addr) (c1 : Nat) (l1 : List Int) (r : Bool) (w : World) (hr0 : Kd.C (Kd.int .u8) w A0 l0.length l0) (hc0 : l0.length ≤ c0) (hr1 : Kd.C (Kd.int .u8) w A1 l1.length l1) (hc1 : l1.length ≤ c1) (h : laws_FnBallot.F k l0 l1 r) :
    Calls Try.prog 8 #[.slice A0 l0.length c0, .slice A1 l1.length c1] w fun e w' => e = .returned (.bool r) ∧ Below w.heap.size w w' := by
  have hu53 := Try.underlying53
  have hu26 := Try.underlying26
  obtain ⟨rfl, hF⟩ := h
  have HC0 := Aside0.mk hr0
  have HK0 := Aside0.mk hc0
  have HC1 := Aside0.mk hr1
  have HK1 := Aside0.mk hc1
  clear hr0 hc0 hr1 hc1
  rcases hF with g0 | ⟨g0, g1⟩ | ⟨g0, g1, hF⟩
  · have d0 : decide (1048576 < (l0.length : Int)) = true := decide_eq_true g0
    have d1 : decide (1048576 < l0.length) = true := decide_eq_true (by omega)
    clear g0
    go_enter Try.func8, Try.ntmps8
    go_wp2
    go_ret
    exact ⟨rfl, Below.refl _ _⟩
  · have d0 : decide (1048576 < (l0.length : Int)) = false := decide_eq_false g0
    have d1 : decide (1048576 < l0.length) = false := decide_eq_false (by omega)
    have d2 : decide (1048576 < (l1.length : Int)) = true := decide_eq_true g1
    have d3 : decide (1048576 < l1.length) = true := decide_eq_true (by omega)
    clear g0 g1
    go_enter Try.func8, Try.ntmps8
    go_wp2
    go_ret
    exact ⟨rfl, Below.refl _ _⟩
  have d0 : decide (1048576 < (l0.length : Int)) = false := decide_eq_false g0
  have d1 : decide (1048576 < l0.length) = false := decide_eq_false (by omega)
  have d2 : decide (1048576 < (l1.length : Int)) = false := decide_eq_false g1
  have d3 : decide (1048576 < l1.length) = false := decide_eq_false (by omega)
  clear g0 g1
  obtain ⟨p0, p1, p2, p3, p4, p5, p6, p7, n, c, q1, q2, q3, q4, q5, q6, q7, q8, lb, lq, f1, f2, f3, f4, f5, f6, f7, f8, fl, f9, f10, f11⟩ := hF
  have F1 := Aside0.mk f1; have F2 := Aside0.mk f2; have F3 := Aside0.mk f3; have F4 := Aside0.mk f4; have F5 := Aside0.mk f5; have F6 := Aside0.mk f6; have F7 := Aside0.mk f7; have F8 := Aside0.mk f8; have F9 := Aside0.mk f9; have F10 := Aside0.mk f10; have F11 := Aside0.mk f11; have FL := Aside0.mk fl
  clear f1 f2 f3 f4 f5 f6 f7 f8 fl f9 f10 f11
  go_enter Try.func8, Try.ntmps8
  go_upto_region 4 with (go_at_call 30; refine (spec_PxOf.calls A0 c0 l0 p0 p1 p2 p3 p4 p5 p6 p7 _ HC0.out HK0.out F1.out).mono ?_; rintro e W1 ⟨rfl, hb⟩; have Z1 := hb.size; have HB1 := Aside0.mk hb; have T1 := Aside0.mk ((St.nil w).below hb); clear hb)
  have T2 := Aside0.mk (T1.out.box (.cells #[.int .i64 p0, .int .i64 p1, .int .i64 p2, .int .i64 p3, .int .i64 p4, .int .i64 p5, .int .i64 p6, .int .i64 p7] 26))
  have Z2 : W1.heap.size < (W1.alloc (.cells #[.int .i64 p0, .int .i64 p1, .int .i64 p2, .int .i64 p3, .int .i64 p4, .int .i64 p5, .int .i64 p6, .int .i64 p7] 26)).heap.size := by simp
  generalize W1.alloc (.cells #[.int .i64 p0, .int .i64 p1, .int .i64 p2, .int .i64 p3, .int .i64 p4, .int .i64 p5, .int .i64 p6, .int .i64 p7] 26) = W2 at T2 Z2 ⊢
  go_upto_region 5 with (first | (go_at_call 31; refine (spec_BlocksOf.calls A1 c1 l1 lb _ (Kd.C_below HC1.out T2.out.1) HK1.out F2.out).mono ?_; rintro e W3 ⟨u, rfl, ho, hb⟩; obtain ⟨A3, c3, rfl⟩ := Kd.R_slice ho; have Z3 := hb.size; have T3 := Aside0.mk (T2.out.slice ho hb); clear ho hb))
  have hx := T3.out.blk (b := W1.heap.size) (o := .cells #[.int .i64 p0, .int .i64 p1, .int .i64 p2, .int .i64 p3, .int .i64 p4, .int .i64 p5, .int .i64 p6, .int .i64 p7] 26 (0, 0)) (by simp)
  have x0 := (blk_cell hx 0).trans (rfl : _ = some (Value.int .i64 p0))
  have x1 := (blk_cell hx 1).trans (rfl : _ = some (Value.int .i64 p1))
  have x2 := (blk_cell hx 2).trans (rfl : _ = some (Value.int .i64 p2))
  have x3 := (blk_cell hx 3).trans (rfl : _ = some (Value.int .i64 p3))
  have x4 := (blk_cell hx 4).trans (rfl : _ = some (Value.int .i64 p4))
  have x5 := (blk_cell hx 5).trans (rfl : _ = some (Value.int .i64 p5))
  have x6 := (blk_cell hx 6).trans (rfl : _ = some (Value.int .i64 p6))
  have x7 := (blk_cell hx 7).trans (rfl : _ = some (Value.int .i64 p7))
  clear hx
  go_upto_region 6 with (first | (go_at_call 29; refine (impl_NextBallot.calls k p0 p1 A3 c3 lb n 0 _ (Kd.R_reads' (T3.out.at_ (lo := W2.heap.size) (hi := W3.heap.size) (v := .slice A3 lb.length c3) (l := lb) (by simp))).2.2 (Kd.R_reads' (T3.out.at_ (lo := W2.heap.size) (hi := W3.heap.size) (v := .slice A3 lb.length c3) (l := lb) (by simp))).2.1 F3.out).mono ?_; rintro e W4 ⟨rfl, hb⟩; have Z4 := hb.size; have T4 := Aside0.mk (T3.out.below hb); clear hb))
  clear x0 x1 x2 x3 x4 x5 x6 x7
  have hx := T4.out.blk (b := W1.heap.size) (o := .cells #[.int .i64 p0, .int .i64 p1, .int .i64 p2, .int .i64 p3, .int .i64 p4, .int .i64 p5, .int .i64 p6, .int .i64 p7] 26 (0, 0)) (by simp)
  have x0 := (blk_cell hx 0).trans (rfl : _ = some (Value.int .i64 p0))
  have x1 := (blk_cell hx 1).trans (rfl : _ = some (Value.int .i64 p1))
  have x2 := (blk_cell hx 2).trans (rfl : _ = some (Value.int .i64 p2))
  have x3 := (blk_cell hx 3).trans (rfl : _ = some (Value.int .i64 p3))
  have x4 := (blk_cell hx 4).trans (rfl : _ = some (Value.int .i64 p4))
  have x5 := (blk_cell hx 5).trans (rfl : _ = some (Value.int .i64 p5))
  have x6 := (blk_cell hx 6).trans (rfl : _ = some (Value.int .i64 p6))
  have x7 := (blk_cell hx 7).trans (rfl : _ = some (Value.int .i64 p7))
  clear hx
  go_upto_region 7 with (first | (go_at_call 13; refine (impl_PxStep.calls k p0 p1 p2 p3 p4 p5 p6 p7 A3 c3 lb q1 q2 q3 q4 q5 q6 q7 q8 lq c _ (Kd.R_reads' (T4.out.at_ (lo := W2.heap.size) (hi := W3.heap.size) (v := .slice A3 lb.length c3) (l := lb) (by simp))).2.2 (Kd.R_reads' (T4.out.at_ (lo := W2.heap.size) (hi := W3.heap.size) (v := .slice A3 lb.length c3) (l := lb) (by simp))).2.1 F4.out).mono ?_; rintro e W5 ⟨u, rfl, ho, hb⟩; obtain ⟨A5, c5, rfl⟩ := Kd.R_slice ho; have Z5 := hb.size; have T5 := Aside0.mk (T4.out.slice ho hb); clear ho hb))
  clear x0 x1 x2 x3 x4 x5 x6 x7
  have T6 := Aside0.mk (T5.out.box (.cells #[.int .i64 q1, .int .i64 q2, .int .i64 q3, .int .i64 q4, .int .i64 q5, .int .i64 q6, .int .i64 q7, .int .i64 q8] 26))
  have Z6 : W5.heap.size < (W5.alloc (.cells #[.int .i64 q1, .int .i64 q2, .int .i64 q3, .int .i64 q4, .int .i64 q5, .int .i64 q6, .int .i64 q7, .int .i64 q8] 26)).heap.size := by simp
  generalize W5.alloc (.cells #[.int .i64 q1, .int .i64 q2, .int .i64 q3, .int .i64 q4, .int .i64 q5, .int .i64 q6, .int .i64 q7, .int .i64 q8] 26) = W6 at T6 Z6 ⊢
  have hx := T6.out.blk (b := W1.heap.size) (o := .cells #[.int .i64 p0, .int .i64 p1, .int .i64 p2, .int .i64 p3, .int .i64 p4, .int .i64 p5, .int .i64 p6, .int .i64 p7] 26 (0, 0)) (by simp)
  have x0 := (blk_cell hx 0).trans (rfl : _ = some (Value.int .i64 p0))
  have x1 := (blk_cell hx 1).trans (rfl : _ = some (Value.int .i64 p1))
  have x2 := (blk_cell hx 2).trans (rfl : _ = some (Value.int .i64 p2))
  have x3 := (blk_cell hx 3).trans (rfl : _ = some (Value.int .i64 p3))
  have x4 := (blk_cell hx 4).trans (rfl : _ = some (Value.int .i64 p4))
  have x5 := (blk_cell hx 5).trans (rfl : _ = some (Value.int .i64 p5))
  have x6 := (blk_cell hx 6).trans (rfl : _ = some (Value.int .i64 p6))
  have x7 := (blk_cell hx 7).trans (rfl : _ = some (Value.int .i64 p7))
  clear hx
  go_upto_region 8 with (first | (go_at_call 10; refine (spec_PxStep.calls k p0 p1 p2 p3 p4 p5 p6 p7 A3 c3 lb q1 q2 q3 q4 q5 q6 q7 q8 lq c _ (Kd.R_reads' (T6.out.at_ (lo := W2.heap.size) (hi := W3.heap.size) (v := .slice A3 lb.length c3) (l := lb) (by simp))).2.2 (Kd.R_reads' (T6.out.at_ (lo := W2.heap.size) (hi := W3.heap.size) (v := .slice A3 lb.length c3) (l := lb) (by simp))).2.1 F5.out).mono ?_; rintro e W7 ⟨u, rfl, ho, hb⟩; obtain ⟨A7, c7, rfl⟩ := Kd.R_slice ho; have Z7 := hb.size; have T7 := Aside0.mk (T6.out.slice ho hb); clear ho hb))
  clear x0 x1 x2 x3 x4 x5 x6 x7
  have T8 := Aside0.mk (T7.out.box (.cells #[.int .i64 q1, .int .i64 q2, .int .i64 q3, .int .i64 q4, .int .i64 q5, .int .i64 q6, .int .i64 q7, .int .i64 q8] 26))
  have Z8 : W7.heap.size < (W7.alloc (.cells #[.int .i64 q1, .int .i64 q2, .int .i64 q3, .int .i64 q4, .int .i64 q5, .int .i64 q6, .int .i64 q7, .int .i64 q8] 26)).heap.size := by simp
  generalize W7.alloc (.cells #[.int .i64 q1, .int .i64 q2, .int .i64 q3, .int .i64 q4, .int .i64 q5, .int .i64 q6, .int .i64 q7, .int .i64 q8] 26) = W8 at T8 Z8 ⊢
  have hx := T8.out.blk (b := W1.heap.size) (o := .cells #[.int .i64 p0, .int .i64 p1, .int .i64 p2, .int .i64 p3, .int .i64 p4, .int .i64 p5, .int .i64 p6, .int .i64 p7] 26 (0, 0)) (by simp)
  have x0 := (blk_cell hx 0).trans (rfl : _ = some (Value.int .i64 p0))
  have x1 := (blk_cell hx 1).trans (rfl : _ = some (Value.int .i64 p1))
  have x2 := (blk_cell hx 2).trans (rfl : _ = some (Value.int .i64 p2))
  have x3 := (blk_cell hx 3).trans (rfl : _ = some (Value.int .i64 p3))
  have x4 := (blk_cell hx 4).trans (rfl : _ = some (Value.int .i64 p4))
  have x5 := (blk_cell hx 5).trans (rfl : _ = some (Value.int .i64 p5))
  have x6 := (blk_cell hx 6).trans (rfl : _ = some (Value.int .i64 p6))
  have x7 := (blk_cell hx 7).trans (rfl : _ = some (Value.int .i64 p7))
  clear hx
  have hx := T8.out.blk (b := W5.heap.size) (o := .cells #[.int .i64 q1, .int .i64 q2, .int .i64 q3, .int .i64 q4, .int .i64 q5, .int .i64 q6, .int .i64 q7, .int .i64 q8] 26 (0, 0)) (by simp)
  have y0 := (blk_cell hx 0).trans (rfl : _ = some (Value.int .i64 q1))
  have y1 := (blk_cell hx 1).trans (rfl : _ = some (Value.int .i64 q2))
  have y2 := (blk_cell hx 2).trans (rfl : _ = some (Value.int .i64 q3))
  have y3 := (blk_cell hx 3).trans (rfl : _ = some (Value.int .i64 q4))
  have y4 := (blk_cell hx 4).trans (rfl : _ = some (Value.int .i64 q5))
  have y5 := (blk_cell hx 5).trans (rfl : _ = some (Value.int .i64 q6))
  have y6 := (blk_cell hx 6).trans (rfl : _ = some (Value.int .i64 q7))
  have y7 := (blk_cell hx 7).trans (rfl : _ = some (Value.int .i64 q8))
  clear hx
  have hx := T8.out.blk (b := W7.heap.size) (o := .cells #[.int .i64 q1, .int .i64 q2, .int .i64 q3, .int .i64 q4, .int .i64 q5, .int .i64 q6, .int .i64 q7, .int .i64 q8] 26 (0, 0)) (by simp)
  have z0 := (blk_cell hx 0).trans (rfl : _ = some (Value.int .i64 q1))
  have z1 := (blk_cell hx 1).trans (rfl : _ = some (Value.int .i64 q2))
  have z2 := (blk_cell hx 2).trans (rfl : _ = some (Value.int .i64 q3))
  have z3 := (blk_cell hx 3).trans (rfl : _ = some (Value.int .i64 q4))
  have z4 := (blk_cell hx 4).trans (rfl : _ = some (Value.int .i64 q5))
  have z5 := (blk_cell hx 5).trans (rfl : _ = some (Value.int .i64 q6))
  have z6 := (blk_cell hx 6).trans (rfl : _ = some (Value.int .i64 q7))
  have z7 := (blk_cell hx 7).trans (rfl : _ = some (Value.int .i64 q8))
  clear hx
  have cn : (Int.tmod n 4 != p0) = false := by rw [F6.out]; simp
  have cl : ((lq.length : Int) != 4) = false := by rw [F8.out]; rfl
  have cl2 : (lq.length != 4) = false := by rw [F8.out]; rfl
  go_upto_region 10 with (first | (go_at_call 27; refine (laws_sameBlocks.calls k A5 c5 lq A7 c7 lq true _ (Kd.R_reads' (T8.out.at_ (lo := W4.heap.size) (hi := W5.heap.size) (v := .slice A5 lq.length c5) (l := lq) (by simp))).2.2 (Kd.R_reads' (T8.out.at_ (lo := W4.heap.size) (hi := W5.heap.size) (v := .slice A5 lq.length c5) (l := lq) (by simp))).2.1 (Kd.R_reads' (T8.out.at_ (lo := W6.heap.size) (hi := W7.heap.size) (v := .slice A7 lq.length c7) (l := lq) (by simp))).2.2 (Kd.R_reads' (T8.out.at_ (lo := W6.heap.size) (hi := W7.heap.size) (v := .slice A7 lq.length c7) (l := lq) (by simp))).2.1 F7.out).mono ?_; rintro e W9 ⟨rfl, hd⟩; have Z9 := (hd.below).size; have T9 := Aside0.mk (T8.out.below hd.below); clear hd; clear x0 x1 x2 x3 x4 x5 x6 x7 y0 y1 y2 y3 y4 y5 y6 y7 z0 z1 z2 z3 z4 z5 z6 z7; have hx := T9.out.blk (b := W5.heap.size) (o := .cells #[.int .i64 q1, .int .i64 q2, .int .i64 q3, .int .i64 q4, .int .i64 q5, .int .i64 q6, .int .i64 q7, .int .i64 q8] 26 (0, 0)) (by simp); have y0 := (blk_cell hx 0).trans (rfl : _ = some (Value.int .i64 q1)); have y1 := (blk_cell hx 1).trans (rfl : _ = some (Value.int .i64 q2)); have y2 := (blk_cell hx 2).trans (rfl : _ = some (Value.int .i64 q3)); have y3 := (blk_cell hx 3).trans (rfl : _ = some (Value.int .i64 q4)); have y4 := (blk_cell hx 4).trans (rfl : _ = some (Value.int .i64 q5)); have y5 := (blk_cell hx 5).trans (rfl : _ = some (Value.int .i64 q6)); have y6 := (blk_cell hx 6).trans (rfl : _ = some (Value.int .i64 q7)); have y7 := (blk_cell hx 7).trans (rfl : _ = some (Value.int .i64 q8)); clear hx) | (go_at_call 32; refine (impl_PxOK.calls q1 q2 q3 q4 q5 q6 q7 q8 true _ F9.out).mono ?_; rintro e W10 ⟨rfl, hb⟩; have Z10 := hb.size; have T10 := Aside0.mk (T9.out.below hb); clear hb))
  clear y0 y1 y2 y3 y4 y5 y6 y7 cn cl cl2
  go_wp2
  go_loopg [15] 4 (fun d v15 W => ∃ (h : Int), v15 = .int .i64 h ∧ 0 ≤ h ∧ h + (d : Int) = 4 ∧ Aside0 (St w W [(W7.heap.size, .cells #[.int .i64 q1, .int .i64 q2, .int .i64 q3, .int .i64 q4, .int .i64 q5, .int .i64 q6, .int .i64 q7, .int .i64 q8] 26 (0, 0)), (W5.heap.size, .cells #[.int .i64 q1, .int .i64 q2, .int .i64 q3, .int .i64 q4, .int .i64 q5, .int .i64 q6, .int .i64 q7, .int .i64 q8] 26 (0, 0)), (W1.heap.size, .cells #[.int .i64 p0, .int .i64 p1, .int .i64 p2, .int .i64 p3, .int .i64 p4, .int .i64 p5, .int .i64 p6, .int .i64 p7] 26 (0, 0))] [(W6.heap.size, W7.heap.size, .slice A7 lq.length c7, lq), (W4.heap.size, W5.heap.size, .slice A5 lq.length c5, lq), (W2.heap.size, W3.heap.size, .slice A3 lb.length c3, lb)]))
  case atStart => exact ⟨0, rfl, by omega, by omega, T10⟩
  case round =>
    clear T10
    obtain ⟨h, rfl, h0, hd, TL⟩ := hrel
    by_cases hlt : h < 4
    · obtain ⟨d, rfl⟩ : ∃ d, gk = d + 1 := ⟨gk - 1, by omega⟩
      obtain ⟨adB, eB, m0, m1, m2, m3⟩ := at_T53 (Kd.R_reads' (TL.out.at_ (lo := W2.heap.size) (hi := W3.heap.size) (v := .slice A3 lb.length c3) (l := lb) (by simp))).2.2 h h0 (by rw [FL.out]; omega)
      obtain ⟨adI, eI, o0, o1, o2, o3⟩ := at_T53 (Kd.R_reads' (TL.out.at_ (lo := W4.heap.size) (hi := W5.heap.size) (v := .slice A5 lq.length c5) (l := lq) (by simp))).2.2 h h0 (by rw [F8.out]; omega)
      obtain rfl := eB
      obtain rfl := eI
      obtain ⟨g1, g2, g3, g4⟩ := F10.out h h0 hlt
      generalize rd_T53 lb h = eb at m0 m1 m2 m3 g1 g2 g4
      generalize rd_T53 lq h = eq at o0 o1 o2 o3 g2 g3 g4
      obtain ⟨b0, b1, b2, b3⟩ := eb
      obtain ⟨e0, e1, e2, e3⟩ := eq
      dsimp only at m0 m1 m2 m3 o0 o1 o2 o3 g1 g2 g3 g4
      have G1 := Aside0.mk g1
      have G2 := Aside0.mk g2
      have G3 := Aside0.mk g3
      have G4 := Aside0.mk g4
      clear g1 g2 g3 g4
      have tq0 : (0 ≤ h) = True := eq_true h0
      have tq1 : (h < (lb.length : Int)) = True := eq_true (by rw [FL.out]; omega)
      have tq2 : (h < (lq.length : Int)) = True := eq_true (by rw [F8.out]; omega)
      have tq3 : (h < 4) = True := eq_true hlt
      have hx := TL.out.blk (b := W1.heap.size) (o := .cells #[.int .i64 p0, .int .i64 p1, .int .i64 p2, .int .i64 p3, .int .i64 p4, .int .i64 p5, .int .i64 p6, .int .i64 p7] 26 (0, 0)) (by simp)
      have x0 := (blk_cell hx 0).trans (rfl : _ = some (Value.int .i64 p0))
      have x1 := (blk_cell hx 1).trans (rfl : _ = some (Value.int .i64 p1))
      have x2 := (blk_cell hx 2).trans (rfl : _ = some (Value.int .i64 p2))
      have x3 := (blk_cell hx 3).trans (rfl : _ = some (Value.int .i64 p3))
      have x4 := (blk_cell hx 4).trans (rfl : _ = some (Value.int .i64 p4))
      have x5 := (blk_cell hx 5).trans (rfl : _ = some (Value.int .i64 p5))
      have x6 := (blk_cell hx 6).trans (rfl : _ = some (Value.int .i64 p6))
      have x7 := (blk_cell hx 7).trans (rfl : _ = some (Value.int .i64 p7))
      clear hx
      go_upto_region 13 with fail
      go_cut [159] (fun v W => v = .bool false ∧ Aside0 (St w W [(W7.heap.size, .cells #[.int .i64 q1, .int .i64 q2, .int .i64 q3, .int .i64 q4, .int .i64 q5, .int .i64 q6, .int .i64 q7, .int .i64 q8] 26 (0, 0)), (W5.heap.size, .cells #[.int .i64 q1, .int .i64 q2, .int .i64 q3, .int .i64 q4, .int .i64 q5, .int .i64 q6, .int .i64 q7, .int .i64 q8] 26 (0, 0)), (W1.heap.size, .cells #[.int .i64 p0, .int .i64 p1, .int .i64 p2, .int .i64 p3, .int .i64 p4, .int .i64 p5, .int .i64 p6, .int .i64 p7] 26 (0, 0))] [(W6.heap.size, W7.heap.size, .slice A7 lq.length c7, lq), (W4.heap.size, W5.heap.size, .slice (some adI) lq.length c5, lq), (W2.heap.size, W3.heap.size, .slice (some adB) lb.length c3, lb)]))
      case first =>
        have hw : (decide (p1 ≤ b0) = true ∧ decide (n ≤ b1) = false ∧ (h != p0) = false ∧ (h == p0) = true ∧ (e0 == b0) = true ∧ True ∧ True ∧ True ∧ decide (e1 < b1) = false) ∨ (decide (p1 ≤ b0) = true ∧ decide (n ≤ b1) = false ∧ (h != p0) = false ∧ (h == p0) = true ∧ (e0 == b0) = false ∧ True ∧ True ∧ True ∧ True) ∨ (decide (p1 ≤ b0) = true ∧ decide (n ≤ b1) = false ∧ (h != p0) = true ∧ (h == p0) = false ∧ (e0 == b0) = true ∧ (e1 == b1) = true ∧ (e2 == b2) = true ∧ (e3 == b3) = true ∧ decide (e1 < b1) = false) ∨ (decide (p1 ≤ b0) = false ∧ True ∧ (h != p0) = false ∧ (h == p0) = true ∧ (e0 == b0) = true ∧ True ∧ True ∧ True ∧ decide (e1 < b1) = false) ∨ (decide (p1 ≤ b0) = false ∧ True ∧ (h != p0) = false ∧ (h == p0) = true ∧ (e0 == b0) = false ∧ True ∧ True ∧ True ∧ True) ∨ (decide (p1 ≤ b0) = false ∧ True ∧ (h != p0) = true ∧ (h == p0) = false ∧ (e0 == b0) = true ∧ (e1 == b1) = true ∧ (e2 == b2) = true ∧ (e3 == b3) = true ∧ decide (e1 < b1) = false) := by
          by_cases a1 : p1 ≤ b0
          · have c2 := decide_eq_false (fun x => G1.out ⟨a1, x⟩)
            by_cases a3 : h = p0
            · have c3 : (h != p0) = false := by simpa using a3
              have c4 : (h == p0) = true := by simpa using a3
              by_cases a4 : e0 = b0
              · exact Or.inl ⟨decide_eq_true a1, c2, c3, c4, by simpa using a4, trivial, trivial, trivial, decide_eq_false (by have := G4.out a4; omega)⟩
              · exact .inr (.inl ⟨decide_eq_true a1, c2, c3, c4, by simpa using a4, trivial, trivial, trivial, trivial⟩)
            · have c3 : (h != p0) = true := by simpa using a3
              have c4 : (h == p0) = false := by simpa using a3
              have ge := G2.out a3
              injection ge with z0 z1 z2 z3
              exact .inr (.inr (.inl ⟨decide_eq_true a1, c2, c3, c4, by simpa using z0, by simpa using z1, by simpa using z2, by simpa using z3, decide_eq_false (by have := G4.out z0; omega)⟩))
          · have c2 := trivial
            by_cases a3 : h = p0
            · have c3 : (h != p0) = false := by simpa using a3
              have c4 : (h == p0) = true := by simpa using a3
              by_cases a4 : e0 = b0
              · exact .inr (.inr (.inr (.inl ⟨decide_eq_false a1, c2, c3, c4, by simpa using a4, trivial, trivial, trivial, decide_eq_false (by have := G4.out a4; omega)⟩)))
              · exact .inr (.inr (.inr (.inr (.inl ⟨decide_eq_false a1, c2, c3, c4, by simpa using a4, trivial, trivial, trivial, trivial⟩))))
            · have c3 : (h != p0) = true := by simpa using a3
              have c4 : (h == p0) = false := by simpa using a3
              have ge := G2.out a3
              injection ge with z0 z1 z2 z3
              exact .inr (.inr (.inr (.inr (.inr ⟨decide_eq_false a1, c2, c3, c4, by simpa using z0, by simpa using z1, by simpa using z2, by simpa using z3, decide_eq_false (by have := G4.out z0; omega)⟩))))
        have Hx0 := Aside0.mk x0; have Hx1 := Aside0.mk x1; have Hm0 := Aside0.mk m0; have Hm1 := Aside0.mk m1; have Hm2 := Aside0.mk m2; have Hm3 := Aside0.mk m3; have Ho0 := Aside0.mk o0; have Ho1 := Aside0.mk o1; have Ho2 := Aside0.mk o2; have Ho3 := Aside0.mk o3
        clear x0 x1 x2 x3 x4 x5 x6 x7 m0 m1 m2 m3 o0 o1 o2 o3
        rcases hw with ⟨c1, c2, c3, c3b, z0, z1, z2, z3, c5⟩ | ⟨c1, c2, c3, c3b, z0, z1, z2, z3, c5⟩ | ⟨c1, c2, c3, c3b, z0, z1, z2, z3, c5⟩ | ⟨c1, c2, c3, c3b, z0, z1, z2, z3, c5⟩ | ⟨c1, c2, c3, c3b, z0, z1, z2, z3, c5⟩ | ⟨c1, c2, c3, c3b, z0, z1, z2, z3, c5⟩
        all_goals
          refine start_ (n := 68) (S := (fun w' => w'.cell? ⟨W1.heap.size, 0, none⟩ = some (.int .i64 p0) ∧ w'.cell? ⟨W1.heap.size, 1, none⟩ = some (.int .i64 p1) ∧ w'.cell? (adB.add (h.toNat * 4)) = some (.int .i64 b0) ∧ w'.cell? ⟨(adB.add (h.toNat * 4)).block, (adB.add (h.toNat * 4)).off + 1, none⟩ = some (.int .i64 b1) ∧ w'.cell? ⟨(adB.add (h.toNat * 4)).block, (adB.add (h.toNat * 4)).off + 2, none⟩ = some (.int .i64 b2) ∧ w'.cell? ⟨(adB.add (h.toNat * 4)).block, (adB.add (h.toNat * 4)).off + 3, none⟩ = some (.int .i64 b3) ∧ w'.cell? (adI.add (h.toNat * 4)) = some (.int .i64 e0) ∧ w'.cell? ⟨(adI.add (h.toNat * 4)).block, (adI.add (h.toNat * 4)).off + 1, none⟩ = some (.int .i64 e1) ∧ w'.cell? ⟨(adI.add (h.toNat * 4)).block, (adI.add (h.toNat * 4)).off + 2, none⟩ = some (.int .i64 e2) ∧ w'.cell? ⟨(adI.add (h.toNat * 4)).block, (adI.add (h.toNat * 4)).off + 3, none⟩ = some (.int .i64 e3))) (ds := []) (bt 0) (by kernel_rfl) rfl (by kernel_rfl) ⟨Hx0.out, Hx1.out, Hm0.out, Hm1.out, Hm2.out, Hm3.out, Ho0.out, Ho1.out, Ho2.out, Ho3.out⟩ (fun hHeld => ?_)
          refine with_tabW laws_FnBallot.tab13 laws_FnBallot.bits13 (fun HT_ HW_ => ?_)
          iterate 9 (first
            | (refine nxtP (v := ?_) (a' := ?_) rfl rfl HT_.out (by kernel_rfl) (fun _ _ _ h => h) (by rfl) ?_ ?_ ?_
               rotate_left
               · intro w'
                 go_simp
                 with_reducible rfl
               rotate_left
               · simp only [Nat.reduceAdd, Act.put, List.setIfInBounds_toArray, List.set_cons_zero, List.set_cons_succ, i64_w, i32_w]
                 rfl)
            | (refine nxtT (v := ?_) (a' := ?_) rfl rfl HT_.out HW_.out (by kernel_rfl) (fun _ _ _ h => h) (by rfl) ?_ hHeld ?_ ?_
               rotate_left
               · rintro w' ⟨s0, s1, s2, s3, s4, s5, s6, s7, s8, s9⟩
                 go_simp
                 with_reducible rfl
               rotate_left
               · simp only [Nat.reduceAdd, Act.put, List.setIfInBounds_toArray, List.set_cons_zero, List.set_cons_succ, i64_w, i32_w]
                 rfl))
          first
          | (guard_hyp c1 : decide (p1 ≤ b0) = true; iterate 7 (first
            | (refine nxtP (v := ?_) (a' := ?_) rfl rfl HT_.out (by kernel_rfl) (fun _ _ _ h => h) (by rfl) ?_ ?_ ?_
               rotate_left
               · intro w'
                 go_simp
                 with_reducible rfl
               rotate_left
               · simp only [Nat.reduceAdd, Act.put, List.setIfInBounds_toArray, List.set_cons_zero, List.set_cons_succ, i64_w, i32_w]
                 rfl)
            | (refine nxtT (v := ?_) (a' := ?_) rfl rfl HT_.out HW_.out (by kernel_rfl) (fun _ _ _ h => h) (by rfl) ?_ hHeld ?_ ?_
               rotate_left
               · rintro w' ⟨s0, s1, s2, s3, s4, s5, s6, s7, s8, s9⟩
                 go_simp
                 with_reducible rfl
               rotate_left
               · simp only [Nat.reduceAdd, Act.put, List.setIfInBounds_toArray, List.set_cons_zero, List.set_cons_succ, i64_w, i32_w]
                 rfl)))
          | (guard_hyp c1 : decide (p1 ≤ b0) = false; iterate 7 (first
            | (refine nxtOff (a' := ?_) rfl rfl HT_.out (by kernel_rfl) (fun _ _ _ h => h) (by rfl) ?_ ?_
               rotate_left
               · simp only [Nat.reduceAdd, Act.put, List.setIfInBounds_toArray, List.set_cons_zero, List.set_cons_succ, i64_w, i32_w]
                 rfl)))
          iterate 7 (first
            | (refine nxtP (v := ?_) (a' := ?_) rfl rfl HT_.out (by kernel_rfl) (fun _ _ _ h => h) (by rfl) ?_ ?_ ?_
               rotate_left
               · intro w'
                 go_simp
                 with_reducible rfl
               rotate_left
               · simp only [Nat.reduceAdd, Act.put, List.setIfInBounds_toArray, List.set_cons_zero, List.set_cons_succ, i64_w, i32_w]
                 rfl)
            | (refine nxtT (v := ?_) (a' := ?_) rfl rfl HT_.out HW_.out (by kernel_rfl) (fun _ _ _ h => h) (by rfl) ?_ hHeld ?_ ?_
               rotate_left
               · rintro w' ⟨s0, s1, s2, s3, s4, s5, s6, s7, s8, s9⟩
                 go_simp
                 with_reducible rfl
               rotate_left
               · simp only [Nat.reduceAdd, Act.put, List.setIfInBounds_toArray, List.set_cons_zero, List.set_cons_succ, i64_w, i32_w]
                 rfl))
          first
          | (guard_hyp c3 : (h != p0) = true; iterate 9 (first
            | (refine nxtP (v := ?_) (a' := ?_) rfl rfl HT_.out (by kernel_rfl) (fun _ _ _ h => h) (by rfl) ?_ ?_ ?_
               rotate_left
               · intro w'
                 go_simp
                 with_reducible rfl
               rotate_left
               · simp only [Nat.reduceAdd, Act.put, List.setIfInBounds_toArray, List.set_cons_zero, List.set_cons_succ, i64_w, i32_w]
                 rfl)
            | (refine nxtT (v := ?_) (a' := ?_) rfl rfl HT_.out HW_.out (by kernel_rfl) (fun _ _ _ h => h) (by rfl) ?_ hHeld ?_ ?_
               rotate_left
               · rintro w' ⟨s0, s1, s2, s3, s4, s5, s6, s7, s8, s9⟩
                 go_simp
                 with_reducible rfl
               rotate_left
               · simp only [Nat.reduceAdd, Act.put, List.setIfInBounds_toArray, List.set_cons_zero, List.set_cons_succ, i64_w, i32_w]
                 rfl)))
          | (guard_hyp c3 : (h != p0) = false; iterate 9 (first
            | (refine nxtOff (a' := ?_) rfl rfl HT_.out (by kernel_rfl) (fun _ _ _ h => h) (by rfl) ?_ ?_
               rotate_left
               · simp only [Nat.reduceAdd, Act.put, List.setIfInBounds_toArray, List.set_cons_zero, List.set_cons_succ, i64_w, i32_w]
                 rfl)))
          iterate 7 (first
            | (refine nxtP (v := ?_) (a' := ?_) rfl rfl HT_.out (by kernel_rfl) (fun _ _ _ h => h) (by rfl) ?_ ?_ ?_
               rotate_left
               · intro w'
                 go_simp
                 with_reducible rfl
               rotate_left
               · simp only [Nat.reduceAdd, Act.put, List.setIfInBounds_toArray, List.set_cons_zero, List.set_cons_succ, i64_w, i32_w]
                 rfl)
            | (refine nxtT (v := ?_) (a' := ?_) rfl rfl HT_.out HW_.out (by kernel_rfl) (fun _ _ _ h => h) (by rfl) ?_ hHeld ?_ ?_
               rotate_left
               · rintro w' ⟨s0, s1, s2, s3, s4, s5, s6, s7, s8, s9⟩
                 go_simp
                 with_reducible rfl
               rotate_left
               · simp only [Nat.reduceAdd, Act.put, List.setIfInBounds_toArray, List.set_cons_zero, List.set_cons_succ, i64_w, i32_w]
                 rfl))
          refine one_ (i := 39) (N := some 131) (bt 40) rfl rfl (one_of HT_.out (by kernel_rfl)) (by decide) (fun K hK => ?_)
          refine goes_ Try.func33 (by kernel_rfl) rfl #[.agg #[.int .i64 e0, .int .i64 e1, .int .i64 e2, .int .i64 e3]] (by rfl) rfl rfl (by (try simp only [List.map_toArray, List.map_cons, List.map_nil]); first | done | rfl) ?_
          refine (impl_BlockOK.calls e0 e1 e2 e3 true _ G3.out).mono ?_
          rintro e w5 ⟨rfl, hb⟩
          refine ⟨_, rfl, ?_⟩
          have HB5 := Aside0.mk (below_step ((Below.refl _ _).drew) hb)
          clear hb hHeld
          refine hK.out _ _ ⟨cell_later HB5.out Hx0.out, cell_later HB5.out Hx1.out, cell_later HB5.out Hm0.out, cell_later HB5.out Hm1.out, cell_later HB5.out Hm2.out, cell_later HB5.out Hm3.out, cell_later HB5.out Ho0.out, cell_later HB5.out Ho1.out, cell_later HB5.out Ho2.out, cell_later HB5.out Ho3.out⟩ (fun hHeld => ?_)
          clear hK K
          refine norm_ (a' := ?_) ?_ ?_
          rotate_left
          · simp only [Nat.reduceAdd, Act.put, List.setIfInBounds_toArray, List.set_cons_zero, List.set_cons_succ, i64_w, i32_w]
            rfl
          iterate 15 (first
            | (refine nxtP (v := ?_) (a' := ?_) rfl rfl HT_.out (by kernel_rfl) (fun _ _ _ h => h) (by rfl) ?_ ?_ ?_
               rotate_left
               · intro w'
                 go_simp
                 with_reducible rfl
               rotate_left
               · simp only [Nat.reduceAdd, Act.put, List.setIfInBounds_toArray, List.set_cons_zero, List.set_cons_succ, i64_w, i32_w]
                 rfl)
            | (refine nxtT (v := ?_) (a' := ?_) rfl rfl HT_.out HW_.out (by kernel_rfl) (fun _ _ _ h => h) (by rfl) ?_ hHeld ?_ ?_
               rotate_left
               · rintro w' ⟨s0, s1, s2, s3, s4, s5, s6, s7, s8, s9⟩
                 go_simp
                 with_reducible rfl
               rotate_left
               · simp only [Nat.reduceAdd, Act.put, List.setIfInBounds_toArray, List.set_cons_zero, List.set_cons_succ, i64_w, i32_w]
                 rfl))
          first
          | (guard_hyp z0 : (e0 == b0) = true; iterate 11 (first
            | (refine nxtP (v := ?_) (a' := ?_) rfl rfl HT_.out (by kernel_rfl) (fun _ _ _ h => h) (by rfl) ?_ ?_ ?_
               rotate_left
               · intro w'
                 go_simp
                 with_reducible rfl
               rotate_left
               · simp only [Nat.reduceAdd, Act.put, List.setIfInBounds_toArray, List.set_cons_zero, List.set_cons_succ, i64_w, i32_w]
                 rfl)
            | (refine nxtT (v := ?_) (a' := ?_) rfl rfl HT_.out HW_.out (by kernel_rfl) (fun _ _ _ h => h) (by rfl) ?_ hHeld ?_ ?_
               rotate_left
               · rintro w' ⟨s0, s1, s2, s3, s4, s5, s6, s7, s8, s9⟩
                 go_simp
                 with_reducible rfl
               rotate_left
               · simp only [Nat.reduceAdd, Act.put, List.setIfInBounds_toArray, List.set_cons_zero, List.set_cons_succ, i64_w, i32_w]
                 rfl)))
          | (guard_hyp z0 : (e0 == b0) = false; iterate 11 (first
            | (refine nxtOff (a' := ?_) rfl rfl HT_.out (by kernel_rfl) (fun _ _ _ h => h) (by rfl) ?_ ?_
               rotate_left
               · simp only [Nat.reduceAdd, Act.put, List.setIfInBounds_toArray, List.set_cons_zero, List.set_cons_succ, i64_w, i32_w]
                 rfl)))
          iterate 2 (first
            | (refine nxtP (v := ?_) (a' := ?_) rfl rfl HT_.out (by kernel_rfl) (fun _ _ _ h => h) (by rfl) ?_ ?_ ?_
               rotate_left
               · intro w'
                 go_simp
                 with_reducible rfl
               rotate_left
               · simp only [Nat.reduceAdd, Act.put, List.setIfInBounds_toArray, List.set_cons_zero, List.set_cons_succ, i64_w, i32_w]
                 rfl)
            | (refine nxtT (v := ?_) (a' := ?_) rfl rfl HT_.out HW_.out (by kernel_rfl) (fun _ _ _ h => h) (by rfl) ?_ hHeld ?_ ?_
               rotate_left
               · rintro w' ⟨s0, s1, s2, s3, s4, s5, s6, s7, s8, s9⟩
                 go_simp
                 with_reducible rfl
               rotate_left
               · simp only [Nat.reduceAdd, Act.put, List.setIfInBounds_toArray, List.set_cons_zero, List.set_cons_succ, i64_w, i32_w]
                 rfl))
          refine done_ (done_of HT_.out (by kernel_rfl)) ?_
          go_wp2_with fail
          go_meet
          exact ⟨rfl, ⟨TL.out.below HB5.out⟩⟩
      case rest =>
        obtain ⟨rfl, TR⟩ := hcut
        clear x0 x1 x2 x3 x4 x5 x6 x7 m0 m1 m2 m3 o0 o1 o2 o3 tq0 tq1 tq2 tq3
        go_wp2
        go_roundg d
        case measure => omega
        case rel => exact ⟨h + 1, by first | rfl | (simp; done) | (unfold wrap64; congr 1; omega), by omega, by omega, TR⟩
    · have tq3 : (h < 4) = False := eq_false hlt
      have hx := TL.out.blk (b := W1.heap.size) (o := .cells #[.int .i64 p0, .int .i64 p1, .int .i64 p2, .int .i64 p3, .int .i64 p4, .int .i64 p5, .int .i64 p6, .int .i64 p7] 26 (0, 0)) (by simp)
      have x0 := (blk_cell hx 0).trans (rfl : _ = some (Value.int .i64 p0))
      have x1 := (blk_cell hx 1).trans (rfl : _ = some (Value.int .i64 p1))
      have x2 := (blk_cell hx 2).trans (rfl : _ = some (Value.int .i64 p2))
      have x3 := (blk_cell hx 3).trans (rfl : _ = some (Value.int .i64 p3))
      have x4 := (blk_cell hx 4).trans (rfl : _ = some (Value.int .i64 p4))
      have x5 := (blk_cell hx 5).trans (rfl : _ = some (Value.int .i64 p5))
      have x6 := (blk_cell hx 6).trans (rfl : _ = some (Value.int .i64 p6))
      have x7 := (blk_cell hx 7).trans (rfl : _ = some (Value.int .i64 p7))
      clear hx
      go_wp2_with (go_at_call 34; refine (impl_PxStart.calls p0 p1 n p4 p0 p1 1 n p4 0 0 0 0 _ F11.out).mono ?_; rintro e w9 ⟨rfl, hb⟩; have TE := Aside0.mk (TL.out.below hb); clear hb)
      go_ret
      exact ⟨rfl, by first | exact TE.out.1 | exact below_alloc TE.out.1 _⟩
end Go.Proofs.Ytlclbdfcniiolaa.Hand
