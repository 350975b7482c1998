/- The program's run of ballots: what it comes to; for all lists of numbers. -/
import Derived.Test.YtlclbdfcniiolaaHandRpw
import Derived.Test.YtlclbdfcniiolaaHandD
import Derived.BigQuiet
import Derived.BigRegion
import Derived.RegionCalls
import Derived.Deep.RegionWith
import Derived.Deep.RegionHeld3
import Derived.Deep.DrawnRows
namespace Go.Proofs.Ytlclbdfcniiolaa.Hand
open Go.RowKit Go.Proofs.YtlclbdfcniiolaaW.PrintWords Go.Proofs.YtlclbdfcniiolaaW.PrintLast Go.Proofs.YtlclbdfcniiolaaW.PrintMore Go.Proofs.Ytlclbdfcniiolaa.Q
set_option linter.unusedVariables false
set_option linter.unusedSimpArgs false
attribute [local go_sem ↓] Go.wp_at_zero Go.wp_at_succ
theorem makeB (w : World) : (Instr.makeSlice 27 (.int .i64 4) (.int .i64 4)).run Try.prog w = .ok (.slice (some ⟨w.heap.size, 0, none⟩) 4 4) (w.alloc (.cells #[.int .i64 0, .int .i64 0, .int .i64 0, .int .i64 0, .int .i64 0, .int .i64 0, .int .i64 0, .int .i64 0, .int .i64 0, .int .i64 0, .int .i64 0, .int .i64 0, .int .i64 0, .int .i64 0, .int .i64 0, .int .i64 0] 53)) := by kernel_rfl
theorem makeP (w : World) : (Instr.makeSlice 66 (.int .i64 4) (.int .i64 4)).run Try.prog w = .ok (.slice (some ⟨w.heap.size, 0, none⟩) 4 4) (w.alloc (.cells #[.int .i64 0, .int .i64 0, .int .i64 0, .int .i64 0, .int .i64 0, .int .i64 0, .int .i64 0, .int .i64 0, .int .i64 0, .int .i64 0, .int .i64 0, .int .i64 0, .int .i64 0, .int .i64 0, .int .i64 0, .int .i64 0, .int .i64 0, .int .i64 0, .int .i64 0, .int .i64 0, .int .i64 0, .int .i64 0, .int .i64 0, .int .i64 0, .int .i64 0, .int .i64 0, .int .i64 0, .int .i64 0, .int .i64 0, .int .i64 0, .int .i64 0, .int .i64 0] 26)) := by kernel_rfl
set_option maxRecDepth 100000 in
set_option maxHeartbeats 16000000 in
theorem impl_RunPaxos.calls (k : Nat) (A0 : Option Addr) (c0 : Nat) (l0 : List Int) (A1 : Option Addr) (c1 : Nat) (l1 : List Int) (r1 : List Int) (r2 : List S53) (r3 : Int) (w : World) (hr0 : Kd.C (Kd.int .i64) w A0 l0.length l0) (hc0 : l0.length ≤ c0) (hr1 : Kd.C (Kd.int .i64) w A1 l1.length l1) (hc1 : l1.length ≤ c1) (h : impl_RunPaxos.f k l0 l1 = some (r1, r2, r3)) :
    Calls Try.prog 20 #[.slice A0 l0.length c0, .slice A1 l1.length c1] w fun e w' => ∃ v0_ v1_ : Value, e = .returned (.tuple #[v0_, v1_, .int .i64 r3]) ∧ Kd.R (Kd.int .i64) 3 w' w.heap.size (fun _ => True) v0_ r1 ∧ Kd.R k53 53 w' w.heap.size (fun _ => True) v1_ r2 ∧ Below w.heap.size w w' := by
  have hu53 := Try.underlying53
  have hu26 := Try.underlying26
  have HC0 := Aside0.mk hr0
  have HK0 := Aside0.mk hc0
  have HC1 := Aside0.mk hr1
  have HK1 := Aside0.mk hc1
  have HH := Aside0.mk h
  clear hr0 hc0 hr1 hc1 h
  go_enter Try.func20, Try.ntmps20
  go_upto_region 1 with fail
  go_cut [7] (fun v7 wx => v7 = .int .i64 (rpCode l0 l1) ∧ Below w.heap.size w wx)
  case first =>
    have T0 := Aside0.mk (Below.refl w.heap.size w)
    obtain ⟨b0, hb0⟩ : ∃ b, l0.all fn_isNumber.p = b := ⟨_, rfl⟩
    obtain ⟨b1, hb1⟩ : ∃ b, l1.all fn_isHost.p = b := ⟨_, rfl⟩
    have B0 := Aside0.mk (show impl_all_int.f l0 fn_isNumber = some b0 from by unfold impl_all_int.f; rw [hb0])
    have B1 := Aside0.mk (show impl_all_int.f l1 fn_isHost = some b1 from by unfold impl_all_int.f; rw [hb1])
    have E0 := hb0
    have E1 := hb1
    clear hb0 hb1
    by_cases g0 : (l0.length : Int) > 4096
    · have g2 : ¬ (l0.length : Int) = 4 := by omega
      have L0 := Aside0.mk (show impl_isLong_int.f l0 = some true from by unfold impl_isLong_int.f; simp; omega)
      have CO := Aside0.mk (show impl_first.f ([AnyV.b true, AnyV.i 2, AnyV.b true, AnyV.i 1, AnyV.b (!b1), AnyV.i 4] : List AnyV) = some (rpCode l0 l1) from by unfold rpCode; rw [E0, E1]; rw [if_pos (.inl g0)]; cases b0 <;> cases b1 <;> rfl)
      have g2b : ((l0.length : Int) != 4) = true := by simp; omega
      go_wp2_with (first | (go_at_call 49; refine (impl_isLong_int.calls A0 c0 l0 true _ (Kd.C_below HC0.out T0.out) HK0.out L0.out).mono ?_; rintro e V1 ⟨rfl, hd⟩; have T1 := Aside0.mk (below_step T0.out hd.below); clear hd) | (go_at_call 50; refine (impl_all_int.calls A1 c1 l1 fn_isHost b1 _ (Kd.C_below HC1.out T1.out) HK1.out B1.out).mono ?_; rintro e V2 ⟨rfl, hb⟩; have T2 := Aside0.mk (below_step T1.out hb); clear hb) | ((with_reducible refine gate_dst (N := 39) rfl ?_); refine Kd.R_lit kany _ 20 ?hg (N := 39) ?hd (xs := ([AnyV.b true, AnyV.i 2, AnyV.b true, AnyV.i 1, AnyV.b (!b1), AnyV.i 4] : List AnyV)) (inner := [.iface 4 (.bool true), .iface 3 (.int .i64 2), .iface 4 (.bool true), .iface 3 (.int .i64 1), .iface 4 (.bool (!b1)), .iface 3 (.int .i64 4)]) (ok := fun _ => True) (okp := fun _ => True) ?hr ?hp (fun _ hk => hk) trivial (Below.refl _ _) (Nat.le_refl _) (by simp) ?_; (case hd => rfl); (case hg => rfl); (case hr => first | (go_simp; done) | (go_simp; rfl)); (case hp => exact (Reps.one (show Kd.M kany _ _ _ (AnyV.b true) [.iface 4 (.bool true)] from rfl) (Reps.one (show Kd.M kany _ _ _ (AnyV.i 2) [.iface 3 (.int .i64 2)] from rfl) (Reps.one (show Kd.M kany _ _ _ (AnyV.b true) [.iface 4 (.bool true)] from rfl) (Reps.one (show Kd.M kany _ _ _ (AnyV.i 1) [.iface 3 (.int .i64 1)] from rfl) (Reps.one (show Kd.M kany _ _ _ (AnyV.b (!b1)) [.iface 4 (.bool (!b1))] from rfl) (Reps.one (show Kd.M kany _ _ _ (AnyV.i 4) [.iface 3 (.int .i64 4)] from rfl) (Reps.none _ _)))))))); intro va V3 ho hb hg_ hnew_; clear hg_ hnew_; obtain ⟨Aa, ca, rfl⟩ := Kd.R_slice ho; have HA := Aside0.mk ho; have T3 := Aside0.mk (below_step T2.out hb); clear ho hb) | (go_at_call 39; refine (impl_first.calls _ _ ([AnyV.b true, AnyV.i 2, AnyV.b true, AnyV.i 1, AnyV.b (!b1), AnyV.i 4] : List AnyV) (rpCode l0 l1) _ (Kd.R_reads' HA.out).2.2 (Kd.R_reads' HA.out).2.1 CO.out).mono ?_; rintro e V4 ⟨rfl, hd⟩; have T4 := Aside0.mk (below_step T3.out hd.below); clear hd))
      go_meet
      exact ⟨rfl, T4.out⟩
    by_cases g1 : (l1.length : Int) > 4096
    · by_cases g2 : (l0.length : Int) = 4
      · skip
        have L0 := Aside0.mk (show impl_isLong_int.f l0 = some false from by unfold impl_isLong_int.f; simp; omega)
        have L1 := Aside0.mk (show impl_isLong_int.f l1 = some true from by unfold impl_isLong_int.f; simp; omega)
        have CO := Aside0.mk (show impl_first.f ([AnyV.b true, AnyV.i 2, AnyV.b (!b0), AnyV.i 1, AnyV.b (!b1), AnyV.i 4] : List AnyV) = some (rpCode l0 l1) from by unfold rpCode; rw [E0, E1]; rw [if_pos (.inr g1)]; cases b0 <;> cases b1 <;> rfl)
        go_wp2_with (first | (go_at_call 49; refine (impl_isLong_int.calls A0 c0 l0 false _ (Kd.C_below HC0.out T0.out) HK0.out L0.out).mono ?_; rintro e V1 ⟨rfl, hd⟩; have T1 := Aside0.mk (below_step T0.out hd.below); clear hd) | (go_at_call 49; refine (impl_isLong_int.calls A1 c1 l1 true _ (Kd.C_below HC1.out T1.out) HK1.out L1.out).mono ?_; rintro e V2 ⟨rfl, hd⟩; have T2 := Aside0.mk (below_step T1.out hd.below); clear hd) | (go_at_call 50; refine (impl_all_int.calls A0 c0 l0 fn_isNumber b0 _ (Kd.C_below HC0.out T2.out) HK0.out B0.out).mono ?_; rintro e V3 ⟨rfl, hb⟩; have T3 := Aside0.mk (below_step T2.out hb); clear hb) | (go_at_call 50; refine (impl_all_int.calls A1 c1 l1 fn_isHost b1 _ (Kd.C_below HC1.out T3.out) HK1.out B1.out).mono ?_; rintro e V4 ⟨rfl, hb⟩; have T4 := Aside0.mk (below_step T3.out hb); clear hb) | ((with_reducible refine gate_dst (N := 39) rfl ?_); refine Kd.R_lit kany _ 20 ?hg (N := 39) ?hd (xs := ([AnyV.b true, AnyV.i 2, AnyV.b (!b0), AnyV.i 1, AnyV.b (!b1), AnyV.i 4] : List AnyV)) (inner := [.iface 4 (.bool true), .iface 3 (.int .i64 2), .iface 4 (.bool (!b0)), .iface 3 (.int .i64 1), .iface 4 (.bool (!b1)), .iface 3 (.int .i64 4)]) (ok := fun _ => True) (okp := fun _ => True) ?hr ?hp (fun _ hk => hk) trivial (Below.refl _ _) (Nat.le_refl _) (by simp) ?_; (case hd => rfl); (case hg => rfl); (case hr => first | (go_simp; done) | (go_simp; rfl)); (case hp => exact (Reps.one (show Kd.M kany _ _ _ (AnyV.b true) [.iface 4 (.bool true)] from rfl) (Reps.one (show Kd.M kany _ _ _ (AnyV.i 2) [.iface 3 (.int .i64 2)] from rfl) (Reps.one (show Kd.M kany _ _ _ (AnyV.b (!b0)) [.iface 4 (.bool (!b0))] from rfl) (Reps.one (show Kd.M kany _ _ _ (AnyV.i 1) [.iface 3 (.int .i64 1)] from rfl) (Reps.one (show Kd.M kany _ _ _ (AnyV.b (!b1)) [.iface 4 (.bool (!b1))] from rfl) (Reps.one (show Kd.M kany _ _ _ (AnyV.i 4) [.iface 3 (.int .i64 4)] from rfl) (Reps.none _ _)))))))); intro va V5 ho hb hg_ hnew_; clear hg_ hnew_; obtain ⟨Aa, ca, rfl⟩ := Kd.R_slice ho; have HA := Aside0.mk ho; have T5 := Aside0.mk (below_step T4.out hb); clear ho hb) | (go_at_call 39; refine (impl_first.calls _ _ ([AnyV.b true, AnyV.i 2, AnyV.b (!b0), AnyV.i 1, AnyV.b (!b1), AnyV.i 4] : List AnyV) (rpCode l0 l1) _ (Kd.R_reads' HA.out).2.2 (Kd.R_reads' HA.out).2.1 CO.out).mono ?_; rintro e V6 ⟨rfl, hd⟩; have T6 := Aside0.mk (below_step T5.out hd.below); clear hd))
        go_meet
        exact ⟨rfl, T6.out⟩
      · skip
        have L0 := Aside0.mk (show impl_isLong_int.f l0 = some false from by unfold impl_isLong_int.f; simp; omega)
        have L1 := Aside0.mk (show impl_isLong_int.f l1 = some true from by unfold impl_isLong_int.f; simp; omega)
        have CO := Aside0.mk (show impl_first.f ([AnyV.b true, AnyV.i 2, AnyV.b true, AnyV.i 1, AnyV.b (!b1), AnyV.i 4] : List AnyV) = some (rpCode l0 l1) from by unfold rpCode; rw [E0, E1]; rw [if_pos (.inr g1)]; cases b0 <;> cases b1 <;> rfl)
        have g2b : ((l0.length : Int) != 4) = true := by simp; omega
        go_wp2_with (first | (go_at_call 49; refine (impl_isLong_int.calls A0 c0 l0 false _ (Kd.C_below HC0.out T0.out) HK0.out L0.out).mono ?_; rintro e V1 ⟨rfl, hd⟩; have T1 := Aside0.mk (below_step T0.out hd.below); clear hd) | (go_at_call 49; refine (impl_isLong_int.calls A1 c1 l1 true _ (Kd.C_below HC1.out T1.out) HK1.out L1.out).mono ?_; rintro e V2 ⟨rfl, hd⟩; have T2 := Aside0.mk (below_step T1.out hd.below); clear hd) | (go_at_call 50; refine (impl_all_int.calls A1 c1 l1 fn_isHost b1 _ (Kd.C_below HC1.out T2.out) HK1.out B1.out).mono ?_; rintro e V3 ⟨rfl, hb⟩; have T3 := Aside0.mk (below_step T2.out hb); clear hb) | ((with_reducible refine gate_dst (N := 39) rfl ?_); refine Kd.R_lit kany _ 20 ?hg (N := 39) ?hd (xs := ([AnyV.b true, AnyV.i 2, AnyV.b true, AnyV.i 1, AnyV.b (!b1), AnyV.i 4] : List AnyV)) (inner := [.iface 4 (.bool true), .iface 3 (.int .i64 2), .iface 4 (.bool true), .iface 3 (.int .i64 1), .iface 4 (.bool (!b1)), .iface 3 (.int .i64 4)]) (ok := fun _ => True) (okp := fun _ => True) ?hr ?hp (fun _ hk => hk) trivial (Below.refl _ _) (Nat.le_refl _) (by simp) ?_; (case hd => rfl); (case hg => rfl); (case hr => first | (go_simp; done) | (go_simp; rfl)); (case hp => exact (Reps.one (show Kd.M kany _ _ _ (AnyV.b true) [.iface 4 (.bool true)] from rfl) (Reps.one (show Kd.M kany _ _ _ (AnyV.i 2) [.iface 3 (.int .i64 2)] from rfl) (Reps.one (show Kd.M kany _ _ _ (AnyV.b true) [.iface 4 (.bool true)] from rfl) (Reps.one (show Kd.M kany _ _ _ (AnyV.i 1) [.iface 3 (.int .i64 1)] from rfl) (Reps.one (show Kd.M kany _ _ _ (AnyV.b (!b1)) [.iface 4 (.bool (!b1))] from rfl) (Reps.one (show Kd.M kany _ _ _ (AnyV.i 4) [.iface 3 (.int .i64 4)] from rfl) (Reps.none _ _)))))))); intro va V4 ho hb hg_ hnew_; clear hg_ hnew_; obtain ⟨Aa, ca, rfl⟩ := Kd.R_slice ho; have HA := Aside0.mk ho; have T4 := Aside0.mk (below_step T3.out hb); clear ho hb) | (go_at_call 39; refine (impl_first.calls _ _ ([AnyV.b true, AnyV.i 2, AnyV.b true, AnyV.i 1, AnyV.b (!b1), AnyV.i 4] : List AnyV) (rpCode l0 l1) _ (Kd.R_reads' HA.out).2.2 (Kd.R_reads' HA.out).2.1 CO.out).mono ?_; rintro e V5 ⟨rfl, hd⟩; have T5 := Aside0.mk (below_step T4.out hd.below); clear hd))
        go_meet
        exact ⟨rfl, T5.out⟩
    by_cases g2 : (l0.length : Int) = 4
    · skip
      have L0 := Aside0.mk (show impl_isLong_int.f l0 = some false from by unfold impl_isLong_int.f; simp; omega)
      have L1 := Aside0.mk (show impl_isLong_int.f l1 = some false from by unfold impl_isLong_int.f; simp; omega)
      have CO := Aside0.mk (show impl_first.f ([AnyV.b false, AnyV.i 2, AnyV.b (!b0), AnyV.i 1, AnyV.b (!b1), AnyV.i 4] : List AnyV) = some (rpCode l0 l1) from by unfold rpCode; rw [E0, E1]; rw [if_neg (fun x => x.elim g0 g1)]; cases b0 <;> cases b1 <;> simp [g2] <;> rfl)
      go_wp2_with (first | (go_at_call 49; refine (impl_isLong_int.calls A0 c0 l0 false _ (Kd.C_below HC0.out T0.out) HK0.out L0.out).mono ?_; rintro e V1 ⟨rfl, hd⟩; have T1 := Aside0.mk (below_step T0.out hd.below); clear hd) | (go_at_call 49; refine (impl_isLong_int.calls A1 c1 l1 false _ (Kd.C_below HC1.out T1.out) HK1.out L1.out).mono ?_; rintro e V2 ⟨rfl, hd⟩; have T2 := Aside0.mk (below_step T1.out hd.below); clear hd) | (go_at_call 50; refine (impl_all_int.calls A0 c0 l0 fn_isNumber b0 _ (Kd.C_below HC0.out T2.out) HK0.out B0.out).mono ?_; rintro e V3 ⟨rfl, hb⟩; have T3 := Aside0.mk (below_step T2.out hb); clear hb) | (go_at_call 50; refine (impl_all_int.calls A1 c1 l1 fn_isHost b1 _ (Kd.C_below HC1.out T3.out) HK1.out B1.out).mono ?_; rintro e V4 ⟨rfl, hb⟩; have T4 := Aside0.mk (below_step T3.out hb); clear hb) | ((with_reducible refine gate_dst (N := 39) rfl ?_); refine Kd.R_lit kany _ 20 ?hg (N := 39) ?hd (xs := ([AnyV.b false, AnyV.i 2, AnyV.b (!b0), AnyV.i 1, AnyV.b (!b1), AnyV.i 4] : List AnyV)) (inner := [.iface 4 (.bool false), .iface 3 (.int .i64 2), .iface 4 (.bool (!b0)), .iface 3 (.int .i64 1), .iface 4 (.bool (!b1)), .iface 3 (.int .i64 4)]) (ok := fun _ => True) (okp := fun _ => True) ?hr ?hp (fun _ hk => hk) trivial (Below.refl _ _) (Nat.le_refl _) (by simp) ?_; (case hd => rfl); (case hg => rfl); (case hr => first | (go_simp; done) | (go_simp; rfl)); (case hp => exact (Reps.one (show Kd.M kany _ _ _ (AnyV.b false) [.iface 4 (.bool false)] from rfl) (Reps.one (show Kd.M kany _ _ _ (AnyV.i 2) [.iface 3 (.int .i64 2)] from rfl) (Reps.one (show Kd.M kany _ _ _ (AnyV.b (!b0)) [.iface 4 (.bool (!b0))] from rfl) (Reps.one (show Kd.M kany _ _ _ (AnyV.i 1) [.iface 3 (.int .i64 1)] from rfl) (Reps.one (show Kd.M kany _ _ _ (AnyV.b (!b1)) [.iface 4 (.bool (!b1))] from rfl) (Reps.one (show Kd.M kany _ _ _ (AnyV.i 4) [.iface 3 (.int .i64 4)] from rfl) (Reps.none _ _)))))))); intro va V5 ho hb hg_ hnew_; clear hg_ hnew_; obtain ⟨Aa, ca, rfl⟩ := Kd.R_slice ho; have HA := Aside0.mk ho; have T5 := Aside0.mk (below_step T4.out hb); clear ho hb) | (go_at_call 39; refine (impl_first.calls _ _ ([AnyV.b false, AnyV.i 2, AnyV.b (!b0), AnyV.i 1, AnyV.b (!b1), AnyV.i 4] : List AnyV) (rpCode l0 l1) _ (Kd.R_reads' HA.out).2.2 (Kd.R_reads' HA.out).2.1 CO.out).mono ?_; rintro e V6 ⟨rfl, hd⟩; have T6 := Aside0.mk (below_step T5.out hd.below); clear hd))
      go_meet
      exact ⟨rfl, T6.out⟩
    · skip
      have L0 := Aside0.mk (show impl_isLong_int.f l0 = some false from by unfold impl_isLong_int.f; simp; omega)
      have L1 := Aside0.mk (show impl_isLong_int.f l1 = some false from by unfold impl_isLong_int.f; simp; omega)
      have CO := Aside0.mk (show impl_first.f ([AnyV.b false, AnyV.i 2, AnyV.b true, AnyV.i 1, AnyV.b (!b1), AnyV.i 4] : List AnyV) = some (rpCode l0 l1) from by unfold rpCode; rw [E0, E1]; rw [if_neg (fun x => x.elim g0 g1)]; rw [if_neg (fun x => g2 x.1)]; cases b1 <;> rfl)
      have g2b : ((l0.length : Int) != 4) = true := by simp; omega
      go_wp2_with (first | (go_at_call 49; refine (impl_isLong_int.calls A0 c0 l0 false _ (Kd.C_below HC0.out T0.out) HK0.out L0.out).mono ?_; rintro e V1 ⟨rfl, hd⟩; have T1 := Aside0.mk (below_step T0.out hd.below); clear hd) | (go_at_call 49; refine (impl_isLong_int.calls A1 c1 l1 false _ (Kd.C_below HC1.out T1.out) HK1.out L1.out).mono ?_; rintro e V2 ⟨rfl, hd⟩; have T2 := Aside0.mk (below_step T1.out hd.below); clear hd) | (go_at_call 50; refine (impl_all_int.calls A1 c1 l1 fn_isHost b1 _ (Kd.C_below HC1.out T2.out) HK1.out B1.out).mono ?_; rintro e V3 ⟨rfl, hb⟩; have T3 := Aside0.mk (below_step T2.out hb); clear hb) | ((with_reducible refine gate_dst (N := 39) rfl ?_); refine Kd.R_lit kany _ 20 ?hg (N := 39) ?hd (xs := ([AnyV.b false, AnyV.i 2, AnyV.b true, AnyV.i 1, AnyV.b (!b1), AnyV.i 4] : List AnyV)) (inner := [.iface 4 (.bool false), .iface 3 (.int .i64 2), .iface 4 (.bool true), .iface 3 (.int .i64 1), .iface 4 (.bool (!b1)), .iface 3 (.int .i64 4)]) (ok := fun _ => True) (okp := fun _ => True) ?hr ?hp (fun _ hk => hk) trivial (Below.refl _ _) (Nat.le_refl _) (by simp) ?_; (case hd => rfl); (case hg => rfl); (case hr => first | (go_simp; done) | (go_simp; rfl)); (case hp => exact (Reps.one (show Kd.M kany _ _ _ (AnyV.b false) [.iface 4 (.bool false)] from rfl) (Reps.one (show Kd.M kany _ _ _ (AnyV.i 2) [.iface 3 (.int .i64 2)] from rfl) (Reps.one (show Kd.M kany _ _ _ (AnyV.b true) [.iface 4 (.bool true)] from rfl) (Reps.one (show Kd.M kany _ _ _ (AnyV.i 1) [.iface 3 (.int .i64 1)] from rfl) (Reps.one (show Kd.M kany _ _ _ (AnyV.b (!b1)) [.iface 4 (.bool (!b1))] from rfl) (Reps.one (show Kd.M kany _ _ _ (AnyV.i 4) [.iface 3 (.int .i64 4)] from rfl) (Reps.none _ _)))))))); intro va V4 ho hb hg_ hnew_; clear hg_ hnew_; obtain ⟨Aa, ca, rfl⟩ := Kd.R_slice ho; have HA := Aside0.mk ho; have T4 := Aside0.mk (below_step T3.out hb); clear ho hb) | (go_at_call 39; refine (impl_first.calls _ _ ([AnyV.b false, AnyV.i 2, AnyV.b true, AnyV.i 1, AnyV.b (!b1), AnyV.i 4] : List AnyV) (rpCode l0 l1) _ (Kd.R_reads' HA.out).2.2 (Kd.R_reads' HA.out).2.1 CO.out).mono ?_; rintro e V5 ⟨rfl, hd⟩; have T5 := Aside0.mk (below_step T4.out hd.below); clear hd))
      go_meet
      exact ⟨rfl, T5.out⟩
  case rest =>
    obtain ⟨rfl, hb⟩ := hcut
    have HB0 := Aside0.mk hb
    clear hb
    have h := HH.out
    clear HH
    unfold impl_RunPaxos.f at h
    have HZ0 := Aside0.mk (rpCode_zero l0 l1)
    generalize rpCode l0 l1 = cd at h HZ0 ⊢
    by_cases hc : cd = 0
    rotate_left
    · rw [if_neg hc] at h
      have h := Option.some.inj h
      simp only [Prod.mk.injEq] at h
      obtain ⟨rfl, rfl, rfl⟩ := h
      go_wp2
      refine bodyPost_ret (v := .tuple #[.slice none 0 0, .slice none 0 0, .int .i64 cd]) ?_ rfl ?_
      · simp [results, Try.f20, go_sem]
      · exact ⟨_, _, rfl, Kd.R_nil _ _ _ _ _, Kd.R_nil _ _ _ _ _, HB0.out⟩
    subst hc
    have HZ := Aside0.mk (HZ0.out rfl)
    clear HZ0
    rw [if_pos rfl] at h
    obtain ⟨⟨pz, bz⟩, hrun, h⟩ := Option.bind_eq_some_iff.mp h
    have h := Option.some.inj h
    simp only [Prod.mk.injEq] at h
    obtain ⟨rfl, rfl, rfl⟩ := h
    have HRUN := Aside0.mk hrun
    clear hrun
    go_upto_region 4 with fail
    go_cut [8, 9] (fun v8 v9 wx => ∃ gb gp, v8 = .slice (some ⟨gb, 0, none⟩) 4 4 ∧ v9 = .slice (some ⟨gp, 0, none⟩) 4 4 ∧ gb ≠ gp ∧ w.heap.size ≤ gb ∧ w.heap.size ≤ gp ∧ RW w wx gb gp (List.replicate 4 z26) (List.replicate 4 z53))
    case first =>
      have hmb := makeB
      have hmp := makeP
      go_region
      all_goals (go_wp2_with fail; go_meet)
      · exact ⟨_, _, rfl, rfl, by omega, HB0.out.size, by have := HB0.out.size; omega, RW.made (below_step HB0.out (rp_below wc _ _).drew) HB0.out.size (by have := HB0.out.size; omega) (blk_drew (rp_first wc _ _)) (blk_drew (rp_second wc _ _))⟩
      · exact ⟨_, _, rfl, rfl, by omega, by have := HB0.out.size; omega, HB0.out.size, RW.made (below_step HB0.out (rp_below wc _ _).drew) (by have := HB0.out.size; omega) HB0.out.size (blk_drew (rp_second wc _ _)) (blk_drew (rp_first wc _ _))⟩
    case rest =>
      obtain ⟨gb, gp, rfl, rfl, hne, hgb, hgp, hw0⟩ := hcut
      have HW0 := Aside0.mk hw0
      clear hw0 HB0
      go_wp2
      go_loopg [48] l1.length (fun d v48 W => ∃ (i : Int) (ps : List S26) (bl : List S53), v48 = .int .i64 i ∧ 0 ≤ i ∧ i + (d : Int) = (l1.length : Int) ∧ Aside0 (ps.length = 4 ∧ bl.length = 4) ∧ Aside0 (rpRun k l0 (l1.drop i.toNat) ps bl = some (pz, bz)) ∧ Aside0 (RW w W gb gp ps bl))
      case atStart => exact ⟨0, _, _, rfl, by omega, by omega, ⟨by simp, by simp⟩, ⟨HRUN.out⟩, HW0⟩
      case round =>
        clear HRUN HW0
        obtain ⟨i, ps, bl, rfl, hi0, hid, HLN, HR, HW⟩ := hrel
        by_cases hlt : i < (l1.length : Int)
        · obtain ⟨d, rfl⟩ : ∃ d, gk = d + 1 := ⟨gk - 1, by omega⟩
          have hr := HR.out
          clear HR
          have hin : i.toNat < l1.length := by omega
          have hrd : rd l1 i = l1[i.toNat] := by simp [rd, List.getD_eq_getElem?_getD, List.getElem?_eq_getElem hin]
          obtain ⟨hh0, hh4⟩ := HZ.out.2.1 (rd l1 i) (by rw [hrd]; exact List.getElem_mem hin)
          rw [List.drop_eq_getElem_cons hin, ← hrd] at hr
          simp only [rpRun] at hr
          obtain ⟨p1, hbegin, hr⟩ := Option.bind_eq_some_iff.mp hr
          obtain ⟨⟨p2, b2⟩, hmove, hr⟩ := Option.bind_eq_some_iff.mp hr
          have HR2 := Aside0.mk hr
          have HBG := Aside0.mk hbegin
          have HMV := Aside0.mk hmove
          obtain ⟨ad1, e1, hx1⟩ := Kd.at_int HC1.out i hi0 hlt
          cases e1
          have hy1 := cell_later HW.out.1 hx1
          clear hr hbegin hmove hx1 hrd hin
          obtain ⟨h, hrw⟩ : ∃ h, rd l1 i = h := ⟨_, rfl⟩
          rw [hrw] at hh0 hh4 HBG HMV hy1
          have q0 : (0 ≤ h) = True := eq_true hh0
          have q1 : (h < 4) = True := eq_true hh4
          have q2 : (0 ≤ i) = True := eq_true hi0
          have q3 : (i < (l1.length : Int)) = True := eq_true hlt
          go_upto_region 9 with fail
          obtain ⟨y, hy⟩ : ∃ y, rd_T26 ps h = y := ⟨_, rfl⟩
          have HY := Aside0.mk hy
          have hc9 := rp_cells HW.out.2.2 h hh0 (by omega)
          rw [hy] at hc9
          obtain ⟨y0, y1, y2, y3, y4, y5, y6, y7⟩ := y
          dsimp only at hc9
          clear hy hy1 hrw
          obtain ⟨⟨x0, x1, x2, x3, x4, x5, x6, x7⟩, _⟩ := hc9
          go_cut [66] (fun s wx => s = .bool (decide (y2 = 0 ∨ y2 = 6)) ∧ RW w wx gb gp ps bl)
          case first =>
            by_cases e0 : y2 = 0
            · have e0b : (y2 == 0) = true := by simp [e0]
              have E0 := Aside0.mk e0
              clear e0
              go_wp2
              go_meet
              exact ⟨by simp [E0.out], HW.out⟩
            have e0b : (y2 == 0) = false := by simp [e0]
            by_cases e6 : y2 = 6
            · have e6b : (y2 == 6) = true := by simp [e6]
              have E6 := Aside0.mk e6
              clear e6
              go_wp2
              go_meet
              exact ⟨by simp [E6.out], HW.out⟩
            have e6b : (y2 == 6) = false := by simp [e6]
            have E0 := Aside0.mk e0
            have E6 := Aside0.mk e6
            clear e0 e6
            go_wp2
            go_meet
            exact ⟨by simp [E0.out, E6.out], HW.out⟩
          case rest =>
            obtain ⟨rfl, hw⟩ := hcut
            clear x0 x1 x2 x3 x4 x5 x6 x7 HW
            have HW := Aside0.mk hw
            clear hw
            go_upto_if 66 with fail
            go_cut [] (fun wx => RW w wx gb gp p1 bl)
            case first =>
              have hbegin := HBG.out
              unfold rpBegin at hbegin
              rw [HY.out] at hbegin
              dsimp only at hbegin
              by_cases hb : y2 = 0 ∨ y2 = 6
              rotate_left
              · rw [if_neg hb] at hbegin
                obtain rfl := Option.some.inj hbegin
                rw [decide_eq_false hb]
                clear hb hbegin
                go_wp2
                go_meet
                exact HW.out
              rw [if_pos hb] at hbegin
              obtain ⟨nb, hnb, hbegin⟩ := Option.bind_eq_some_iff.mp hbegin
              obtain ⟨⟨s1, s2, s3, s4, s5, s6, s7, s8, s9⟩, hst, hbegin⟩ := Option.bind_eq_some_iff.mp hbegin
              obtain rfl := Option.some.inj hbegin
              rw [decide_eq_true hb]
              have HNB : Aside0 (∀ W', Below wc.heap.size wc W' → Calls Try.prog 53 #[.int .i64 h, .int .i64 0, .slice (some ⟨gb, 0, none⟩) 4 4] W' fun e w' => e = .returned (.int .i64 nb) ∧ Below W'.heap.size W' w') := ⟨fun W' hb' => by
                have hR := Kd.R_below HW.out.2.1 hb'
                have hq := impl_nextBallot.calls k h 0 (some ⟨gb, 0, none⟩) 4 bl nb W' (Kd.R_reads' hR).2.2 (by rw [HLN.out.2]; exact Nat.le_refl 4) hnb
                rw [HLN.out.2] at hq
                exact hq⟩
              have HST : Aside0 (∀ W', Calls Try.prog 34 #[.int .i64 h, .int .i64 0, .int .i64 nb, .int .i64 (rd l0 h)] W' fun e w' => e = .returned (.tuple #[.agg #[.int .i64 s1, .int .i64 s2, .int .i64 s3, .int .i64 s4, .int .i64 s5, .int .i64 s6, .int .i64 s7, .int .i64 s8], .int .i64 s9]) ∧ Below W'.heap.size W' w') := ⟨fun W' => impl_PxStart.calls h 0 nb (rd l0 h) s1 s2 s3 s4 s5 s6 s7 s8 s9 W' hst⟩
              clear hnb hst hbegin hb
              have hl4 : h < (l0.length : Int) := by rw [HZ.out.1]; omega
              obtain ⟨ad0, e0, hx0⟩ := Kd.at_int HC0.out h hh0 hl4
              cases e0
              have NE0 := Aside0.mk (show (ad0.add h.toNat).block ≠ gp from by have := World.block_lt_of_cell? w _ hx0; omega)
              have S0 := Aside0.mk (cell_later HW.out.1 hx0)
              have S1 := Aside0.mk (cell_later ((Below.refl wc.heap.size wc).drew) S0.out)
              have q4 : (h < (l0.length : Int)) = True := eq_true hl4
              clear hx0 hl4
              go_upto_region 10 with fail
              go_region_held3 (fun w' => w'.cell? (ad0.add h.toNat) = some (.int .i64 (rd l0 h)))
                (first | (with_reducible exact S1.out) | (with_reducible exact rp_keep8 (cell_later HB2.out S0.out) NE0.out) | (with_reducible exact cell_later HB2.out S0.out) | (with_reducible exact cell_later HB1.out S0.out))
                (first | (go_at_call 53; refine (HNB.out _ (Below.refl _ _).drew).mono ?_; rintro e w1 ⟨rfl, hb1⟩; have HB1 : Aside0 (Below wc.heap.size wc w1) := ⟨below_first hb1⟩; clear hb1) | (go_at_call 34; refine (HST.out _).mono ?_; rintro e w2 ⟨rfl, hb2⟩; have HB2 := Aside0.mk (below_step HB1.out hb2); clear hb2; obtain ⟨⟨x0, x1, x2, x3, x4, x5, x6, x7⟩, xf0, xf1, xf2, xf3, xf4, xf5, xf6, xf7⟩ := rp_cells (Kd.R_below HW.out.2.2 HB2.out) h hh0 (by omega)))
              all_goals (go_wp2_with fail; go_meet)
              all_goals exact RW.write (HW.out.below HB2.out) hne hgp h hh0 hh4 ⟨s1, s2, s3, s4, s5, s6, s7, s8⟩
            case rest =>
              have HW2 := Aside0.mk hcut
              have HL1 := Aside0.mk (rpBegin_length HBG.out)
              clear hcut HW HBG HY
              obtain ⟨z, hz⟩ : ∃ z, rd_T26 p1 h = z := ⟨_, rfl⟩
              have HZZ := Aside0.mk hz
              have hc9 := rp_cells HW2.out.2.2 h hh0 (by omega)
              rw [hz] at hc9
              obtain ⟨z0, z1, z2, z3, z4, z5, z6, z7⟩ := z
              dsimp only at hc9
              clear hz
              obtain ⟨⟨x0, x1, x2, x3, x4, x5, x6, x7⟩, _⟩ := hc9
              obtain ⟨en, hen⟩ : ∃ b : Bool, decide (z2 = 5 ∨ z2 = 6) = b := ⟨_, rfl⟩
              have HE := Aside0.mk hen
              have HEN := Aside0.mk (fun W' => impl_Px_ended.calls z0 z1 z2 z3 z4 z5 z6 z7 en W' (by rw [← hen]; unfold impl_Px_ended.f; by_cases e5 : z2 = 5 <;> by_cases e6 : z2 = 6 <;> simp [e5, e6]))
              clear hen
              go_upto_if 85 with (go_at_call 43; refine (HEN.out _).mono ?_; rintro e W5 ⟨rfl, hb⟩; have HB5 := Aside0.mk hb; clear hb)
              have HW3 := Aside0.mk (HW2.out.below HB5.out)
              clear x0 x1 x2 x3 x4 x5 x6 x7
              have hi9 : i ≤ 5000 := by have := HZ.out.2.2; omega
              have hi1 : (i + 1).toNat = i.toNat + 1 := by omega
              have HI1 := Aside0.mk hi1
              clear hi1
              have HL2 := Aside0.mk (rpMove_length HMV.out)
              have HLL : Aside0 (p2.length = 4 ∧ b2.length = 4) := ⟨by rw [HL2.out.1, HL1.out]; exact HLN.out.1, by rw [HL2.out.2]; exact HLN.out.2⟩
              have hmove := HMV.out
              unfold rpMove at hmove
              rw [HZZ.out] at hmove
              dsimp only at hmove
              by_cases hb : z2 = 5 ∨ z2 = 6
              · rw [if_pos hb] at hmove
                have hmove := Option.some.inj hmove
                simp only [Prod.mk.injEq] at hmove
                obtain ⟨rfl, rfl⟩ := hmove
                obtain rfl : en = true := by rw [← HE.out]; exact decide_eq_true hb
                clear hb
                go_wp2
                go_roundg d
                case measure => omega
                case rel => exact ⟨i + 1, p1, bl, by first | rfl | (simp; done) | (unfold wrap64; congr 1; omega), by omega, by omega, ⟨by exact HLL.out⟩, ⟨by rw [HI1.out]; exact HR2.out⟩, ⟨HW3.out⟩⟩
              · rw [if_neg hb] at hmove
                obtain ⟨⟨s1, s2, s3, s4, s5, s6, s7, s8, sl⟩, hst, hmove⟩ := Option.bind_eq_some_iff.mp hmove
                have hmove := Option.some.inj hmove
                simp only [Prod.mk.injEq] at hmove
                obtain ⟨rfl, rfl⟩ := hmove
                obtain rfl : en = false := by rw [← HE.out]; exact decide_eq_false hb
                have HSP := Aside0.mk (impl_Px_step.calls z0 z1 z2 z3 z4 z5 z6 z7 (fun k => k = gb) (.slice (some ⟨gb, 0, none⟩) 4 4) bl s1 s2 s3 s4 s5 s6 s7 s8 sl w W5 HW3.out.1 HW3.out.2.1 hst)
                clear hst hb
                have hc9 := rp_cells HW3.out.2.2 h hh0 (by omega)
                rw [HZZ.out] at hc9
                dsimp only at hc9
                obtain ⟨⟨x0, x1, x2, x3, x4, x5, x6, x7⟩, _⟩ := hc9
                go_wp2_with (go_at_call 44; refine (HSP.out).mono ?_; rintro e W6 ⟨rfl, hr6, hb6, hk6⟩; have HW6 := Aside0.mk (HW3.out.step hne hr6 hb6 hk6); obtain ⟨⟨v0, v1, v2, v3, v4, v5, v6, v7⟩, vf0, vf1, vf2, vf3, vf4, vf5, vf6, vf7⟩ := rp_cells HW6.out.2.2 h hh0 (by omega); clear hr6 hb6 hk6)
                go_roundg d
                case measure => omega
                case rel => exact ⟨i + 1, _, sl, by first | rfl | (simp; done) | (unfold wrap64; congr 1; omega), by omega, by omega, ⟨by exact HLL.out⟩, ⟨by rw [HI1.out]; exact HR2.out⟩, ⟨RW.write HW6.out hne hgp h hh0 hh4 ⟨s1, s2, s3, s4, s5, s6, s7, s8⟩⟩⟩
        · have hR := HR.out
          rw [List.drop_eq_nil_of_le (by omega)] at hR
          simp only [rpRun, Option.some.injEq, Prod.mk.injEq] at hR
          obtain ⟨rfl, rfl⟩ := hR
          clear HR
          go_wp2_with (((with_reducible refine gate_dst (N := 94) rfl ?_); refine Kd.R_lit (Kd.int .i64) _ 3 ?hg (N := 94) ?hd (xs := ([] : List Int)) (inner := []) (ok := fun _ => True) (okp := fun _ => True) ?hr ?hp (fun _ hk => hk) trivial (Below.refl _ _) (Nat.le_refl _) (by simp) ?_; (case hd => rfl); (case hg => rfl); (case hr => first | (go_simp; done) | (go_simp; rfl)); (case hp => exact (Reps.none _ _)); intro vo W7 ho hb7 hg_ hnew_; clear hg_ hnew_; have HW7 := Aside0.mk (HW.out.below hb7); have HO7 := Aside0.mk (Kd.R_lower ho HW.out.1.size); clear ho hb7))
          go_loopg [13, 97] 4 (fun d v13 v97 W => ∃ (j : Int), v97 = .int .i64 j ∧ 0 ≤ j ∧ j + (d : Int) = 4 ∧ Aside0 (Kd.R (Kd.int .i64) 3 W w.heap.size (fun _ => True) v13 ((ps.map rpOne).take j.toNat)) ∧ Aside0 (RW w W gb gp ps bl))
          case atStart => exact ⟨0, rfl, by omega, by omega, HO7, HW7⟩
          case round =>
            clear HO7 HW7 HW
            obtain ⟨j, rfl, hj0, hjd, HO, HWj⟩ := hrel
            have HBj := Aside0.mk HWj.out.1
            by_cases hj4 : j < 4
            · obtain ⟨d, rfl⟩ : ∃ d, gk = d + 1 := ⟨gk - 1, by omega⟩
              obtain ⟨y, hy⟩ : ∃ y, rd_T26 ps j = y := ⟨_, rfl⟩
              have hc9 := rp_cells HWj.out.2.2 j hj0 (by omega)
              rw [hy] at hc9
              have HT := Aside0.mk (rp_take ps j hj0 (by rw [HLN.out.1]; omega))
              rw [hy] at HT
              have TL := Aside0.mk (show ((ps.map rpOne).take j.toNat).length < 17592186044416 from by rw [List.length_take]; omega)
              obtain ⟨y0, y1, y2, y3, y4, y5, y6, y7⟩ := y
              dsimp only at hc9
              clear hy
              obtain ⟨⟨x0, x1, x2, x3, x4, x5, x6, x7⟩, _⟩ := hc9
              have q0 : (0 ≤ j) = True := eq_true hj0
              have q1 : (j < 4) = True := eq_true hj4
              have hj1 : (j + 1).toNat = j.toNat + 1 := by omega
              have HJ1 := Aside0.mk hj1
              clear hj1
              by_cases h5 : y2 = 5
              · have h5b : (y2 == 5) = true := by simp [h5]
                have E5 := Aside0.mk h5
                clear h5
                go_wp2_with (((with_reducible refine gate_builtin (b := .append) (xs := #[.tmp 104, .tmp 107]) rfl ?_); at_builtin; refine Kd.R_append (Kd.int .i64) (w0 := w) w.heap.size rfl (.tmp 104) (.tmp 107) 36 3 (.int .i64 0) 8 rfl Try.underlying36 info3 rfl (by decide) (by omega) u13 ((ps.map rpOne).take j.toNat) (y4) [.int .i64 (y4)] (fun _ => True) (fun _ => False) rfl ?aX ?aP (fun _ hk => hk.elim) ?aF ?aO ?aB ?aS ?aL ?_; (case aX => first | (go_simp; done) | (go_simp; rfl) | rfl); (case aP => exact rfl); (case aB => exact (by repeat (first | (with_reducible exact HBj.out) | (with_reducible apply below_alloc)))); (case aF => exact (fun _ _ => trivial)); (case aO => exact Kd.R_below HO.out (by repeat (first | (with_reducible exact Below.refl _ _) | (with_reducible apply below_alloc)))); (case aS => exact (below_size (by repeat (first | (with_reducible exact HBj.out) | (with_reducible apply below_alloc))))); (case aL => have := TL.out; omega); intro v9 W9 ho hb hg hat; have HO9 := Aside0.mk ho; have HW9 : Aside0 (RW w W9 gb gp ps bl) := ⟨RW.grown (RW.below HWj.out (by repeat (first | (with_reducible exact Below.refl _ _) | (with_reducible apply below_alloc)))) (Kd.R_below HO.out (by repeat (first | (with_reducible exact Below.refl _ _) | (with_reducible apply below_alloc)))) hb hg⟩; clear ho hb hg hat))
                go_roundg d
                case measure => omega
                case rel => exact ⟨j + 1, by first | rfl | (simp; done) | (unfold wrap64; congr 1; omega), by omega, by omega, ⟨by rw [HJ1.out, HT.out]; have := HO9.out; unfold rpOne; rw [if_pos E5.out]; exact this⟩, HW9⟩
              · have h5b : (y2 == 5) = false := by simp [h5]
                have E5 := Aside0.mk h5
                clear h5
                go_wp2_with (((with_reducible refine gate_builtin (b := .append) (xs := #[.tmp 109, .tmp 110]) rfl ?_); at_builtin; refine Kd.R_append (Kd.int .i64) (w0 := w) w.heap.size rfl (.tmp 109) (.tmp 110) 36 3 (.int .i64 0) 8 rfl Try.underlying36 info3 rfl (by decide) (by omega) u13 ((ps.map rpOne).take j.toNat) (-1) [.int .i64 (-1)] (fun _ => True) (fun _ => False) rfl ?aX ?aP (fun _ hk => hk.elim) ?aF ?aO ?aB ?aS ?aL ?_; (case aX => first | (go_simp; done) | (go_simp; rfl) | rfl); (case aP => exact rfl); (case aB => exact (by repeat (first | (with_reducible exact HBj.out) | (with_reducible apply below_alloc)))); (case aF => exact (fun _ _ => trivial)); (case aO => exact Kd.R_below HO.out (by repeat (first | (with_reducible exact Below.refl _ _) | (with_reducible apply below_alloc)))); (case aS => exact (below_size (by repeat (first | (with_reducible exact HBj.out) | (with_reducible apply below_alloc))))); (case aL => have := TL.out; omega); intro v9 W9 ho hb hg hat; have HO9 := Aside0.mk ho; have HW9 : Aside0 (RW w W9 gb gp ps bl) := ⟨RW.grown (RW.below HWj.out (by repeat (first | (with_reducible exact Below.refl _ _) | (with_reducible apply below_alloc)))) (Kd.R_below HO.out (by repeat (first | (with_reducible exact Below.refl _ _) | (with_reducible apply below_alloc)))) hb hg⟩; clear ho hb hg hat))
                go_roundg d
                case measure => omega
                case rel => exact ⟨j + 1, by first | rfl | (simp; done) | (unfold wrap64; congr 1; omega), by omega, by omega, ⟨by rw [HJ1.out, HT.out]; have := HO9.out; unfold rpOne; rw [if_neg E5.out]; exact this⟩, HW9⟩
            · have hO := HO.out
              rw [List.take_of_length_le (by rw [List.length_map, HLN.out.1]; omega)] at hO
              have HO2 := Aside0.mk hO
              clear hO HO
              go_wp2
              refine bodyPost_ret (v := .tuple #[u13, .slice (some ⟨gb, 0, none⟩) 4 4, .int .i64 0]) ?_ rfl ?_
              · simp [results, Try.f20, go_sem]
              · exact ⟨_, _, rfl, HO2.out, Kd.R_mono HWj.out.2.1 (fun _ _ => trivial), HWj.out.1⟩
end Go.Proofs.Ytlclbdfcniiolaa.Hand
