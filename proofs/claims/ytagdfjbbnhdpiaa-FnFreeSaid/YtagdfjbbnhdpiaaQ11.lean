-- Written by wip/gen/pp.py (the kit's printer, turned): Lean checks it.
import Derived.Test.YtagdfjbbnhdpiaaQ0
import Derived.Test.YtagdfjbbnhdpiaaQ2
import Derived.Test.YtagdfjbbnhdpiaaQ4
import Derived.Test.YtagdfjbbnhdpiaaQ6
namespace Go.Proofs.Ytagdfjbbnhdpiaa.Q
open Go.RowKit Go.Proofs.YtagdfjbbnhdpiaaW.PrintWords Go.Proofs.YtagdfjbbnhdpiaaW.PrintLast Go.Proofs.YtagdfjbbnhdpiaaW.PrintMore Go.Proofs.Ytagdfjbbnhdpiaa.Hand
attribute [local go_sem] max2_int min2_int max_two min_two max_three min_three max_four min_four   -- for this text's walks alone
set_option linter.unusedVariables false
set_option linter.unusedSimpArgs false

/-! ### impl_isCluster: function 83 -/
def impl_isCluster.f (a0 : Int) : Option (Bool) := (impl_within.f a0 0 23).bind fun t373 => (some t373)
set_option maxHeartbeats 8000000 in
set_option maxRecDepth 100000 in
theorem impl_isCluster.calls (a0 : Int) (r : Bool) (w : World) (h : impl_isCluster.f a0 = some r) :
    Calls Try.prog 83 #[.int .i64 a0] w fun e w' => e = .returned (.bool r) ∧ Drawn0 w w' := by
  have H : ((impl_within.f a0 0 23).bind fun t373 => (some t373)) = some r := h
  clear h
  replace H := Option.bind_eq_some_iff.mp H
  obtain ⟨t373, A20, H⟩ := H
  replace H : (some t373) = some r := H
  have A2 := Aside0.mk A20
  clear A20
  obtain rfl := Option.some.inj H
  go_enter Try.func83, Try.ntmps83
  go_wp2_with (first | ((with_reducible refine gate_callee (f := 65) rfl ?_); refine goesL_ (some 4) rfl rfl Try.func65 (by kernel_rfl) rfl #[.int .i64 a0, .int .i64 0, .int .i64 23] rfl (by (try simp only [List.map_toArray, List.map_cons, List.map_nil]); first | done | rfl | (simp only [List.length_drop, List.length_take]; rfl)) ?_; (with_reducible refine (impl_within.calls a0 0 23 t373 _ A2.out).mono ?_); rintro e w' ⟨rfl, ⟨nd, rfl⟩⟩; refine ⟨_, rfl, ?_⟩))
  go_ret
  exact ⟨by first | rfl | (simp; done) | (simp [*]; done), by repeat (first | exact Drawn0.refl _ | apply Drawn0.step)⟩

/-! ### impl_refCodes: function 61 -/
def impl_refCodes.f (l0 : List Int) (a1 : Int) : Option (Int) := (impl_isLong_int.f l0).bind fun t374 => ((impl_RefsOK.f l0).bind fun t375 => ((impl_isCluster.f a1).bind fun t376 => ((impl_first.f (([AnyV.b t374, AnyV.i 2, AnyV.b (!t375), AnyV.i 1, AnyV.b (!t376), AnyV.i 4] : List AnyV))).bind fun t380 => (some t380))))
set_option maxHeartbeats 8000000 in
set_option maxRecDepth 100000 in
theorem impl_refCodes.calls (A0 : Option Addr) (c0 : Nat) (l0 : List Int) (a1 : Int) (r : Int) (w : World) (hr0 : Kd.C (Kd.int .i64) w A0 l0.length l0) (hc0 : l0.length ≤ c0) (h : impl_refCodes.f l0 a1 = some r) :
    Calls Try.prog 61 #[.slice A0 l0.length c0, .int .i64 a1] w fun e w' => e = .returned (.int .i64 r) ∧ Below w.heap.size w w' := by
  have HR0 := Aside0.mk hr0
  have HC0 := Aside0.mk hc0
  clear hr0 hc0
  have HB := Aside0.mk (Below.refl w.heap.size w)
  have H : ((impl_isLong_int.f l0).bind fun t374 => ((impl_RefsOK.f l0).bind fun t375 => ((impl_isCluster.f a1).bind fun t376 => ((impl_first.f (([AnyV.b t374, AnyV.i 2, AnyV.b (!t375), AnyV.i 1, AnyV.b (!t376), AnyV.i 4] : List AnyV))).bind fun t380 => (some t380))))) = some r := h
  clear h
  replace H := Option.bind_eq_some_iff.mp H
  obtain ⟨t374, A30, H⟩ := H
  replace H : ((impl_RefsOK.f l0).bind fun t375 => ((impl_isCluster.f a1).bind fun t376 => ((impl_first.f (([AnyV.b t374, AnyV.i 2, AnyV.b (!t375), AnyV.i 1, AnyV.b (!t376), AnyV.i 4] : List AnyV))).bind fun t380 => (some t380)))) = some r := H
  have A3 := Aside0.mk A30
  clear A30
  replace H := Option.bind_eq_some_iff.mp H
  obtain ⟨t375, A40, H⟩ := H
  replace H : ((impl_isCluster.f a1).bind fun t376 => ((impl_first.f (([AnyV.b t374, AnyV.i 2, AnyV.b (!t375), AnyV.i 1, AnyV.b (!t376), AnyV.i 4] : List AnyV))).bind fun t380 => (some t380))) = some r := H
  have A4 := Aside0.mk A40
  clear A40
  replace H := Option.bind_eq_some_iff.mp H
  obtain ⟨t376, A50, H⟩ := H
  replace H : ((impl_first.f (([AnyV.b t374, AnyV.i 2, AnyV.b (!t375), AnyV.i 1, AnyV.b (!t376), AnyV.i 4] : List AnyV))).bind fun t380 => (some t380)) = some r := H
  have A5 := Aside0.mk A50
  clear A50
  obtain ⟨y377, hy377⟩ : ∃ y_ : List AnyV, y_ = (([AnyV.b t374, AnyV.i 2, AnyV.b (!t375), AnyV.i 1, AnyV.b (!t376), AnyV.i 4] : List AnyV)) := ⟨_, rfl⟩
  replace H : ((impl_first.f y377).bind fun t380 => (some t380)) = some r := by first | (rw [hy377]; with_reducible exact H) | (have H2_ := (Option.bind_some _ _).symm.trans H; rw [hy377]; with_reducible exact H2_) | (have H2_ := (Option.bind_some _ _).symm.trans H; with_reducible exact H2_) | with_reducible exact H | (rw [hy377]; exact H) | exact H
  have Ny377 := Aside0.mk hy377
  clear hy377
  replace H := Option.bind_eq_some_iff.mp H
  obtain ⟨t380, A60, H⟩ := H
  replace H : (some t380) = some r := H
  have A6 := Aside0.mk A60
  clear A60
  obtain rfl := Option.some.inj H
  go_enter Try.func61, Try.ntmps61
  go_wp2_with (first | ((with_reducible refine gate_callee (f := 46) rfl ?_); refine goesL_ (some 6) rfl rfl Try.func46 (by kernel_rfl) rfl #[.slice A0 l0.length c0] rfl (by (try simp only [List.map_toArray, List.map_cons, List.map_nil]); first | done | rfl | (simp only [List.length_drop, List.length_take]; rfl)) ?_; (with_reducible refine (impl_isLong_int.calls _ _ l0 t374 _ ?side1 ?side2 A3.out).mono ?_); (case side1 => repeat (first | exact HR0.out | (with_reducible refine Kd.C_alloc ?_ _) | (with_reducible refine Kd.C_drewN ?_ _) | (with_reducible refine Kd.C_drew ?_))); (case side2 => exact HC0.out); rintro e w' ⟨rfl, ⟨nd, rfl⟩⟩; refine ⟨_, rfl, ?_⟩) | ((with_reducible refine gate_callee (f := 31) rfl ?_); refine goesL_ (some 10) rfl rfl Try.func31 (by kernel_rfl) rfl #[.slice A0 l0.length c0] rfl (by (try simp only [List.map_toArray, List.map_cons, List.map_nil]); first | done | rfl | (simp only [List.length_drop, List.length_take]; rfl)) ?_; (with_reducible refine (impl_RefsOK.calls _ _ l0 t375 _ ?side1 ?side2 A4.out).mono ?_); (case side1 => repeat (first | exact HR0.out | (with_reducible refine Kd.C_alloc ?_ _) | (with_reducible refine Kd.C_drewN ?_ _) | (with_reducible refine Kd.C_drew ?_))); (case side2 => exact HC0.out); rintro e w7 ⟨rfl, hb⟩; refine ⟨_, rfl, ?_⟩; have n0_ := Aside0.mk (below_step (by repeat (first | (with_reducible first | exact HB.out | apply below_alloc | apply pw_below_drewN | apply below_drew1) | exact HB.out)) hb); clear HB; have HB := n0_; clear n0_; (try clear hb); (try clear hb2); (try clear hk); (try clear hi)) | ((with_reducible refine gate_callee (f := 83) rfl ?_); refine goesL_ (some 15) rfl rfl Try.func83 (by kernel_rfl) rfl #[.int .i64 a1] rfl (by (try simp only [List.map_toArray, List.map_cons, List.map_nil]); first | done | rfl | (simp only [List.length_drop, List.length_take]; rfl)) ?_; (with_reducible refine (impl_isCluster.calls a1 t376 _ A5.out).mono ?_); rintro e w' ⟨rfl, ⟨nd, rfl⟩⟩; refine ⟨_, rfl, ?_⟩) | ((with_reducible refine gate_dst (N := 19) rfl ?_); refine Kd.R_lit kany _ 20 ?hg (N := 19) ?hd (xs := ([AnyV.b t374, AnyV.i 2, AnyV.b (!t375), AnyV.i 1, AnyV.b (!t376), AnyV.i 4] : List AnyV)) (inner := [.iface 4 (.bool t374), .iface 3 (.int .i64 2), .iface 4 (.bool (!t375)), .iface 3 (.int .i64 1), .iface 4 (.bool (!t376)), .iface 3 (.int .i64 4)]) (ok := fun _ => True) (okp := fun _ => True) ?hr ?hp (fun _ hk => hk) trivial (Below.refl _ _) (Nat.le_refl _) (by simp) ?_; (case hd => rfl); (case hg => rfl); (case hr => first | (go_simp; done) | (go_simp; rfl)); (case hp => exact (Reps.one (show Kd.M kany _ _ _ (AnyV.b t374) [.iface 4 (.bool t374)] from rfl) (Reps.one (show Kd.M kany _ _ _ (AnyV.i 2) [.iface 3 (.int .i64 2)] from rfl) (Reps.one (show Kd.M kany _ _ _ (AnyV.b (!t375)) [.iface 4 (.bool (!t375))] from rfl) (Reps.one (show Kd.M kany _ _ _ (AnyV.i 1) [.iface 3 (.int .i64 1)] from rfl) (Reps.one (show Kd.M kany _ _ _ (AnyV.b (!t376)) [.iface 4 (.bool (!t376))] from rfl) (Reps.one (show Kd.M kany _ _ _ (AnyV.i 4) [.iface 3 (.int .i64 4)] from rfl) (Reps.none _ _)))))))); intro v378 w8 ho9 hb hg_ hnew_; clear hg_ hnew_; (first | rw [← Ny377.out] at ho9 | (simp only [Int.reduceToNat] at ho9; rw [← Ny377.out] at ho9)); have n0_ := Aside0.mk (Kd.R_lower ho9 (below_size (by repeat (first | (with_reducible first | exact HB.out | apply below_alloc | apply pw_below_drewN | apply below_drew1) | exact HB.out)))); have n1_ := Aside0.mk (below_step (by repeat (first | (with_reducible first | exact HB.out | apply below_alloc | apply pw_below_drewN | apply below_drew1) | exact HB.out)) hb); clear HB; have HO379 := n0_; have HB := n1_; clear n0_ n1_; clear hb ho9; obtain ⟨Ao10, co10, eo10⟩ := Kd.R_slice HO379.out; subst eo10) | ((with_reducible refine gate_callee (f := 45) rfl ?_); refine goesL_ (some 20) rfl rfl Try.func45 (by kernel_rfl) rfl #[.slice Ao10 y377.length co10] rfl (by (try simp only [List.map_toArray, List.map_cons, List.map_nil]); first | done | rfl | (simp only [List.length_drop, List.length_take]; rfl)) ?_; (with_reducible refine (impl_first.calls _ _ y377 t380 _ ?side1 ?side2 A6.out).mono ?_); (case side1 => repeat (first | exact (Kd.R_reads' HO379.out).2.2 | (with_reducible refine Kd.C_alloc ?_ _) | (with_reducible refine Kd.C_drewN ?_ _) | (with_reducible refine Kd.C_drew ?_))); (case side2 => exact (Kd.R_reads' HO379.out).2.1); rintro e w' ⟨rfl, ⟨nd, rfl⟩⟩; refine ⟨_, rfl, ?_⟩))
  go_ret
  exact ⟨by first | rfl | (simp [errW_none, errW_some] <;> rfl) | (simp [*, errW_none, errW_some] <;> rfl), by repeat (first | (with_reducible first | exact HB.out | apply below_alloc | apply pw_below_drewN | apply below_drew1) | exact HB.out)⟩

end Go.Proofs.Ytagdfjbbnhdpiaa.Q
