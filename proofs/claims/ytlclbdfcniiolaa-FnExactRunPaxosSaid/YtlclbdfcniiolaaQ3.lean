-- Written by wip/gen/pp.py (the kit's printer, turned): Lean checks it.
import Derived.Test.YtlclbdfcniiolaaQ0
import Derived.Test.YtlclbdfcniiolaaQ1
import Derived.Test.YtlclbdfcniiolaaHandSs
import Derived.Test.YtlclbdfcniiolaaHandRpw
namespace Go.Proofs.Ytlclbdfcniiolaa.Q
open Go.RowKit Go.Proofs.YtlclbdfcniiolaaW.PrintWords Go.Proofs.YtlclbdfcniiolaaW.PrintLast Go.Proofs.YtlclbdfcniiolaaW.PrintMore Go.Proofs.Ytlclbdfcniiolaa.Hand
attribute [local go_sem] max2_int min2_int max_two min_two max_three min_three max_four min_four   -- for this text's walks alone
set_option linter.unusedVariables false
set_option linter.unusedSimpArgs false

/-! ### spec_RunPaxos: function 18 -/
mutual
def spec_RunPaxos.j0 : Nat → List Int → List Int → Bool → Option (List Int × (List (S53)) × Int)
  | 0, _, _, _ => none
  | k + 1, x0, x1, x24 => if x24 = true then (some ((([] : List Int)), (([] : List (S53))), 2)) else (if (x0.length : Int) = 4 then ((spec_l02Ints.f k x0).bind fun t131 => (spec_RunPaxos.j1 k x0 x1 (!t131))) else (spec_RunPaxos.j1 k x0 x1 true))
def spec_RunPaxos.j1 : Nat → List Int → List Int → Bool → Option (List Int × (List (S53)) × Int)
  | 0, _, _, _ => none
  | k + 1, x0, x1, x34 => if x34 = true then (some ((([] : List Int)), (([] : List (S53))), 1)) else (spec_RunPaxos.l0 k x0 x1 (List.replicate 4 z53) (([] : List (S26))) 0)
def spec_RunPaxos.l0 : Nat → List Int → List Int → List (S53) → List (S26) → Int → Option (List Int × (List (S53)) × Int)
  | 0, _, _, _, _, _ => none
  | k + 1, x0, x1, x7, x8, x9 => if x9 < 4 then (if 0 ≤ x9 then (if x9 < (x0.length : Int) then (if x8.length < 2199023255552 then (spec_RunPaxos.l0 k x0 x1 x7 (x8 ++ [(⟨x9, 0, 6, 0, rd x0 x9, 0, 0, 0⟩ : S26)]) (wrap64 (x9 + 1))) else (none)) else (none)) else (none)) else (spec_RunPaxos.l1 k x0 x1 x7 x8 0)
def spec_RunPaxos.l1 : Nat → List Int → List Int → List (S53) → List (S26) → Int → Option (List Int × (List (S53)) × Int)
  | 0, _, _, _, _, _ => none
  | k + 1, x0, x1, x7, x8, x10 => if x10 < (x1.length : Int) then (if 0 ≤ x10 then ((spec_l04Host.f (rd x1 x10)).bind fun t149 => (if t149 = true then (if 0 ≤ (rd x1 x10) then (if (rd x1 x10) < (x8.length : Int) then (if ((rd_T26 x8 (rd x1 x10)).f2) = 6 then ((spec_l05Next.f k (rd x1 x10) 0 x7).bind fun t157 => (if (rd x1 x10) < (x0.length : Int) then ((spec_l05Step.f (rd x1 x10) 0 1 t157 (rd x0 (rd x1 x10)) 0 0 0 x7).bind fun bt161 => (spec_RunPaxos.l1 k x0 x1 bt161.2.2.2.2.2.2.2.2.1 ((x8.set ((rd x1 x10) : Int).toNat (⟨rd x1 x10, 0, 1, t157, rd x0 (rd x1 x10), 0, 0, 0⟩ : S26)).set ((rd x1 x10) : Int).toNat (⟨bt161.1, bt161.2.1, bt161.2.2.1, bt161.2.2.2.1, bt161.2.2.2.2.1, bt161.2.2.2.2.2.1, bt161.2.2.2.2.2.2.1, bt161.2.2.2.2.2.2.2.1⟩ : S26)) (wrap64 (x10 + 1)))) else (none))) else ((spec_l05Step.f ((rd_T26 x8 (rd x1 x10)).f0) ((rd_T26 x8 (rd x1 x10)).f1) ((rd_T26 x8 (rd x1 x10)).f2) ((rd_T26 x8 (rd x1 x10)).f3) ((rd_T26 x8 (rd x1 x10)).f4) ((rd_T26 x8 (rd x1 x10)).f5) ((rd_T26 x8 (rd x1 x10)).f6) ((rd_T26 x8 (rd x1 x10)).f7) x7).bind fun bt176 => (spec_RunPaxos.l1 k x0 x1 bt176.2.2.2.2.2.2.2.2.1 (x8.set ((rd x1 x10) : Int).toNat (⟨bt176.1, bt176.2.1, bt176.2.2.1, bt176.2.2.2.1, bt176.2.2.2.2.1, bt176.2.2.2.2.2.1, bt176.2.2.2.2.2.2.1, bt176.2.2.2.2.2.2.2.1⟩ : S26)) (wrap64 (x10 + 1))))) else (none)) else (none)) else (some ((([] : List Int)), (([] : List (S53))), 4)))) else (none)) else (spec_RunPaxos.l2 k x7 x8 (([] : List Int)) 0)
def spec_RunPaxos.l2 : Nat → List (S53) → List (S26) → List Int → Int → Option (List Int × (List (S53)) × Int)
  | 0, _, _, _, _ => none
  | k + 1, x7, x8, x15, x16 => if x16 < 4 then (if 0 ≤ x16 then (if x16 < (x8.length : Int) then (if ((rd_T26 x8 x16).f2) = 5 then (if x15.length < 17592186044416 then (spec_RunPaxos.l2 k x7 x8 (x15 ++ [(rd_T26 x8 x16).f4]) (wrap64 (x16 + 1))) else (none)) else (if x15.length < 17592186044416 then (spec_RunPaxos.l2 k x7 x8 (x15 ++ [(-1)]) (wrap64 (x16 + 1))) else (none))) else (none)) else (none)) else (some (x15, x7, 0))
end
def spec_RunPaxos.f (k : Nat) (l0 : List Int) (l1 : List Int) : Option (List Int × (List (S53)) × Int) := if (l0.length : Int) > 4096 then (spec_RunPaxos.j0 k l0 l1 true) else (spec_RunPaxos.j0 k l0 l1 (decide ((l1.length : Int) > 4096)))
theorem spec_RunPaxos.mono_l : ∀ k, (∀ y0 y1 y2, LeO (spec_RunPaxos.j0 k y0 y1 y2) (spec_RunPaxos.j0 (k + 1) y0 y1 y2)) ∧ (∀ y0 y1 y2, LeO (spec_RunPaxos.j1 k y0 y1 y2) (spec_RunPaxos.j1 (k + 1) y0 y1 y2)) ∧ (∀ y0 y1 y2 y3 y4, LeO (spec_RunPaxos.l0 k y0 y1 y2 y3 y4) (spec_RunPaxos.l0 (k + 1) y0 y1 y2 y3 y4)) ∧ (∀ y0 y1 y2 y3 y4, LeO (spec_RunPaxos.l1 k y0 y1 y2 y3 y4) (spec_RunPaxos.l1 (k + 1) y0 y1 y2 y3 y4)) ∧ (∀ y0 y1 y2 y3, LeO (spec_RunPaxos.l2 k y0 y1 y2 y3) (spec_RunPaxos.l2 (k + 1) y0 y1 y2 y3))
  | 0 => ⟨fun _ _ _ r h => by simp [spec_RunPaxos.j0] at h, fun _ _ _ r h => by simp [spec_RunPaxos.j1] at h, fun _ _ _ _ _ r h => by simp [spec_RunPaxos.l0] at h, fun _ _ _ _ _ r h => by simp [spec_RunPaxos.l1] at h, fun _ _ _ _ r h => by simp [spec_RunPaxos.l2] at h⟩
  | k + 1 => by
    obtain ⟨ih0, ih1, ih2, ih3, ih4⟩ := spec_RunPaxos.mono_l k
    refine ⟨?_, ?_, ?_, ?_, ?_⟩
    · intro y0 y1 y2
      unfold spec_RunPaxos.j0
      repeat' first
      | (with_reducible exact ih0 _ _ _)
      | (with_reducible exact ih1 _ _ _)
      | (with_reducible exact ih2 _ _ _ _ _)
      | (with_reducible exact ih3 _ _ _ _ _)
      | (with_reducible exact ih4 _ _ _ _)
      | (with_reducible exact spec_l02Ints.mono _ _)
      | (with_reducible exact spec_l05Next.mono _ _ _ _)
      | (with_reducible exact LeO.refl _)
      | (with_reducible exact LeO.none _)
      | (with_reducible refine LeO.ite ?_ ?_)
      | (with_reducible refine LeO.bind ?_ (fun _ => ?_))
      | exact ih0 _ _ _
      | exact ih1 _ _ _
      | exact ih2 _ _ _ _ _
      | exact ih3 _ _ _ _ _
      | exact ih4 _ _ _ _
      | exact spec_l02Ints.mono _ _
      | exact spec_l05Next.mono _ _ _ _
      | exact LeO.none _
      | refine LeO.ite ?_ ?_
      | refine LeO.bind ?_ (fun _ => ?_)
    · intro y0 y1 y2
      unfold spec_RunPaxos.j1
      repeat' first
      | (with_reducible exact ih0 _ _ _)
      | (with_reducible exact ih1 _ _ _)
      | (with_reducible exact ih2 _ _ _ _ _)
      | (with_reducible exact ih3 _ _ _ _ _)
      | (with_reducible exact ih4 _ _ _ _)
      | (with_reducible exact spec_l02Ints.mono _ _)
      | (with_reducible exact spec_l05Next.mono _ _ _ _)
      | (with_reducible exact LeO.refl _)
      | (with_reducible exact LeO.none _)
      | (with_reducible refine LeO.ite ?_ ?_)
      | (with_reducible refine LeO.bind ?_ (fun _ => ?_))
      | exact ih0 _ _ _
      | exact ih1 _ _ _
      | exact ih2 _ _ _ _ _
      | exact ih3 _ _ _ _ _
      | exact ih4 _ _ _ _
      | exact spec_l02Ints.mono _ _
      | exact spec_l05Next.mono _ _ _ _
      | exact LeO.none _
      | refine LeO.ite ?_ ?_
      | refine LeO.bind ?_ (fun _ => ?_)
    · intro y0 y1 y2 y3 y4
      unfold spec_RunPaxos.l0
      repeat' first
      | (with_reducible exact ih0 _ _ _)
      | (with_reducible exact ih1 _ _ _)
      | (with_reducible exact ih2 _ _ _ _ _)
      | (with_reducible exact ih3 _ _ _ _ _)
      | (with_reducible exact ih4 _ _ _ _)
      | (with_reducible exact spec_l02Ints.mono _ _)
      | (with_reducible exact spec_l05Next.mono _ _ _ _)
      | (with_reducible exact LeO.refl _)
      | (with_reducible exact LeO.none _)
      | (with_reducible refine LeO.ite ?_ ?_)
      | (with_reducible refine LeO.bind ?_ (fun _ => ?_))
      | exact ih0 _ _ _
      | exact ih1 _ _ _
      | exact ih2 _ _ _ _ _
      | exact ih3 _ _ _ _ _
      | exact ih4 _ _ _ _
      | exact spec_l02Ints.mono _ _
      | exact spec_l05Next.mono _ _ _ _
      | exact LeO.none _
      | refine LeO.ite ?_ ?_
      | refine LeO.bind ?_ (fun _ => ?_)
    · intro y0 y1 y2 y3 y4
      unfold spec_RunPaxos.l1
      repeat' first
      | (with_reducible exact ih0 _ _ _)
      | (with_reducible exact ih1 _ _ _)
      | (with_reducible exact ih2 _ _ _ _ _)
      | (with_reducible exact ih3 _ _ _ _ _)
      | (with_reducible exact ih4 _ _ _ _)
      | (with_reducible exact spec_l02Ints.mono _ _)
      | (with_reducible exact spec_l05Next.mono _ _ _ _)
      | (with_reducible exact LeO.refl _)
      | (with_reducible exact LeO.none _)
      | (with_reducible refine LeO.ite ?_ ?_)
      | (with_reducible refine LeO.bind ?_ (fun _ => ?_))
      | exact ih0 _ _ _
      | exact ih1 _ _ _
      | exact ih2 _ _ _ _ _
      | exact ih3 _ _ _ _ _
      | exact ih4 _ _ _ _
      | exact spec_l02Ints.mono _ _
      | exact spec_l05Next.mono _ _ _ _
      | exact LeO.none _
      | refine LeO.ite ?_ ?_
      | refine LeO.bind ?_ (fun _ => ?_)
    · intro y0 y1 y2 y3
      unfold spec_RunPaxos.l2
      repeat' first
      | (with_reducible exact ih0 _ _ _)
      | (with_reducible exact ih1 _ _ _)
      | (with_reducible exact ih2 _ _ _ _ _)
      | (with_reducible exact ih3 _ _ _ _ _)
      | (with_reducible exact ih4 _ _ _ _)
      | (with_reducible exact spec_l02Ints.mono _ _)
      | (with_reducible exact spec_l05Next.mono _ _ _ _)
      | (with_reducible exact LeO.refl _)
      | (with_reducible exact LeO.none _)
      | (with_reducible refine LeO.ite ?_ ?_)
      | (with_reducible refine LeO.bind ?_ (fun _ => ?_))
      | exact ih0 _ _ _
      | exact ih1 _ _ _
      | exact ih2 _ _ _ _ _
      | exact ih3 _ _ _ _ _
      | exact ih4 _ _ _ _
      | exact spec_l02Ints.mono _ _
      | exact spec_l05Next.mono _ _ _ _
      | exact LeO.none _
      | refine LeO.ite ?_ ?_
      | refine LeO.bind ?_ (fun _ => ?_)
theorem spec_RunPaxos.mono : ∀ a0 a1 k, LeO (spec_RunPaxos.f k a0 a1) (spec_RunPaxos.f (k + 1) a0 a1) := by
  intro a0 a1 k
  obtain ⟨ih0, ih1, ih2, ih3, ih4⟩ := spec_RunPaxos.mono_l k
  unfold spec_RunPaxos.f
  repeat' first
      | (with_reducible exact ih0 _ _ _)
      | (with_reducible exact ih1 _ _ _)
      | (with_reducible exact ih2 _ _ _ _ _)
      | (with_reducible exact ih3 _ _ _ _ _)
      | (with_reducible exact ih4 _ _ _ _)
      | (with_reducible exact spec_l02Ints.mono _ _)
      | (with_reducible exact spec_l05Next.mono _ _ _ _)
      | (with_reducible exact LeO.refl _)
      | (with_reducible exact LeO.none _)
      | (with_reducible refine LeO.ite ?_ ?_)
      | (with_reducible refine LeO.bind ?_ (fun _ => ?_))
      | exact ih0 _ _ _
      | exact ih1 _ _ _
      | exact ih2 _ _ _ _ _
      | exact ih3 _ _ _ _ _
      | exact ih4 _ _ _ _
      | exact spec_l02Ints.mono _ _
      | exact spec_l05Next.mono _ _ _ _
      | exact LeO.none _
      | refine LeO.ite ?_ ?_
      | refine LeO.bind ?_ (fun _ => ?_)
def spec_RunPaxos.T18 : Bool × List (List Nat × List Nat) := (true, [([], []), ([], []), ([], []), ([], []), ([], []), ([3, 4], [3, 4]), ([], []), ([], []), ([6, 7], [6, 7]), ([8], [8]), ([2, 5, 9], [2, 5, 9]), ([0, 1, 0, 1, 2, 3, 4, 5, 6, 7, 8, 9, 10], [0, 1]), ([11, 10, 5, 0, 1, 2, 3, 4, 5, 6, 7, 8, 9, 10], [10, 11])])
def spec_RunPaxos.B18 : List Nat := [0, 0, 0, 0, 0, 24, 0, 0, 192, 448, 1020, 2047, 4095]
theorem spec_RunPaxos.tab18 : rtab .any (opsOf Try.f18 18) = spec_RunPaxos.T18 := by kernel_rfl
theorem spec_RunPaxos.bits18 : waitsOk spec_RunPaxos.T18.2 spec_RunPaxos.B18 = true := by kernel_rfl
set_option maxHeartbeats 8000000 in
set_option maxRecDepth 100000 in
theorem spec_RunPaxos.calls (k : Nat) (A0 : Option Addr) (c0 : Nat) (l0 : List Int) (A1 : Option Addr) (c1 : Nat) (l1 : List Int) (r1 : List Int) (r2 : List (S53)) (r3 : Int) (w : World) (hr0 : Kd.C (Kd.int .i64) w A0 l0.length l0) (hc0 : l0.length ≤ c0) (hr1 : Kd.C (Kd.int .i64) w A1 l1.length l1) (hc1 : l1.length ≤ c1) (h : spec_RunPaxos.f k l0 l1 = some (r1, r2, r3)) :
    Calls Try.prog 18 #[.slice A0 l0.length c0, .slice A1 l1.length c1] w fun e w' => ∃ v0_ v1_ : Value, e = .returned (.tuple #[v0_, v1_, .int .i64 r3]) ∧ Kd.R (Kd.int .i64) 3 w' w.heap.size (fun _ => True) v0_ r1 ∧ Kd.R k53 53 w' w.heap.size (fun _ => True) v1_ r2 ∧ Below w.heap.size w w' := by
  have hu26 := Try.underlying26
  have HR0 := Aside0.mk hr0
  have HC0 := Aside0.mk hc0
  clear hr0 hc0
  have HR1 := Aside0.mk hr1
  have HC1 := Aside0.mk hc1
  clear hr1 hc1
  have HB := Aside0.mk (Below.refl w.heap.size w)
  have H : (if (l0.length : Int) > 4096 then (spec_RunPaxos.j0 k l0 l1 true) else (spec_RunPaxos.j0 k l0 l1 (decide ((l1.length : Int) > 4096)))) = some (r1, r2, r3) := h
  clear h
  have HC3 := Aside0.mk H
  clear H
  go_enter Try.func18, Try.ntmps18
  go_upto_region 1 with (fail)
  go_cut [24] (fun v24 wc => ∃ (kq : Nat) (x24_2 : Bool), v24 = .bool x24_2 ∧ Aside0 (spec_RunPaxos.j0 kq l0 l1 x24_2 = some (r1, r2, r3)) ∧ Aside0 (kq ≤ k) ∧ Aside0 (Below w.heap.size w wc))
  case first =>
    have H := HC3.out
    clear HC3
    by_cases c4 : (l0.length : Int) > 4096
    · rw [if_pos c4] at H
      have c4b0 : decide (4096 < (l0.length : Int)) = true := decide_eq_true c4
      have c4b1 : decide (4096 < l0.length) = true := decide_eq_true (by omega)
      clear c4
      (first | rw [c4b0] | (simp only [i64_w, i32_w]; rw [c4b0]) | skip)
      have H' := Aside0.mk H
      clear H
      go_wp2
      go_meet
      case rel => exact ⟨_, (true), (by first | rfl | (simp; done) | (simp [*]; done)), H', ⟨by first | omega | exact Nat.le_refl _⟩, ⟨by repeat (first | (with_reducible first | exact HB.out | apply below_alloc | apply pw_below_drewN | apply below_drew1) | exact HB.out)⟩⟩
    · rw [if_neg c4] at H
      have c4b0 : decide (4096 < (l0.length : Int)) = false := decide_eq_false c4
      have c4b1 : decide (4096 < l0.length) = false := decide_eq_false (by omega)
      clear c4
      (first | rw [c4b0] | (simp only [i64_w, i32_w]; rw [c4b0]) | skip)
      have H' := Aside0.mk H
      clear H
      go_wp2
      go_meet
      case rel => exact ⟨_, (decide ((l1.length : Int) > 4096)), (by first | rfl | (simp; done) | (simp [*]; done)), H', ⟨by first | omega | exact Nat.le_refl _⟩, ⟨by repeat (first | (with_reducible first | exact HB.out | apply below_alloc | apply pw_below_drewN | apply below_drew1) | exact HB.out)⟩⟩
  case rest =>
    clear HC3
    try clear c1
    try clear p2
    try clear c4
    try clear c4b0
    try clear c4b1
    obtain ⟨kq, x24_2, rfl, HA, HJ2, HB⟩ := hcut
    cases kq with
    | zero => exact absurd HA.out (by simp [spec_RunPaxos.j0])
    | succ kj2 =>
      have H := HA.out
      clear HA
      simp only [spec_RunPaxos.j0] at H
      by_cases c5 : x24_2 = true
      · subst c5
        have H1 : (some ((([] : List Int)), (([] : List (S53))), 2)) = some (r1, r2, r3) := by rw [if_pos rfl] at H; exact H
        clear H
        have H := H1
        clear H1
        obtain ⟨y125, hy125⟩ : ∃ y_ : List Int, y_ = (([] : List Int)) := ⟨_, rfl⟩
        replace H : (some (y125, (([] : List (S53))), 2)) = some (r1, r2, r3) := by first | (rw [hy125]; with_reducible exact H) | (have H2_ := (Option.bind_some _ _).symm.trans H; rw [hy125]; with_reducible exact H2_) | (have H2_ := (Option.bind_some _ _).symm.trans H; with_reducible exact H2_) | with_reducible exact H | (rw [hy125]; exact H) | exact H
        have Ny125 := Aside0.mk hy125
        clear hy125
        obtain ⟨y128, hy128⟩ : ∃ y_ : List (S53), y_ = (([] : List (S53))) := ⟨_, rfl⟩
        replace H : (some (y125, y128, 2)) = some (r1, r2, r3) := by first | (rw [hy128]; with_reducible exact H) | (have H2_ := (Option.bind_some _ _).symm.trans H; rw [hy128]; with_reducible exact H2_) | (have H2_ := (Option.bind_some _ _).symm.trans H; with_reducible exact H2_) | with_reducible exact H | (rw [hy128]; exact H) | exact H
        have Ny128 := Aside0.mk hy128
        clear hy128
        simp only [Option.some.injEq, Prod.mk.injEq] at H
        obtain ⟨rfl, rfl, rfl⟩ := H
        go_wp2_with (first | ((with_reducible refine gate_dst (N := 25) rfl ?_); refine Kd.R_lit (Kd.int .i64) _ 3 ?hg (N := 25) ?hd (xs := ([] : List Int)) (inner := []) (ok := fun _ => True) (okp := fun _ => True) ?hr ?hp (fun _ hk => hk) trivial (Below.refl _ _) (Nat.le_refl _) (by simp) ?_; (case hd => rfl); (case hg => rfl); (case hr => first | (go_simp; done) | (go_simp; rfl)); (case hp => exact (Reps.none _ _)); intro v126 w6 ho7 hb hg_ hnew_; clear hg_ hnew_; (first | rw [← Ny125.out] at ho7 | (simp only [Int.reduceToNat] at ho7; rw [← Ny125.out] at ho7)); have n0_ := Aside0.mk (Kd.R_lower ho7 (below_size (by repeat (first | (with_reducible first | exact HB.out | apply below_alloc | apply pw_below_drewN | apply below_drew1) | exact HB.out)))); have n1_ := Aside0.mk (below_step (by repeat (first | (with_reducible first | exact HB.out | apply below_alloc | apply pw_below_drewN | apply below_drew1) | exact HB.out)) hb); clear HB; have HO127 := n0_; have HB := n1_; clear n0_ n1_; clear hb ho7) | ((with_reducible refine gate_dst (N := 26) rfl ?_); refine Kd.R_lit k53 _ 53 ?hg (N := 26) ?hd (xs := ([] : List (S53))) (inner := []) (ok := fun _ => True) (okp := fun _ => True) ?hr ?hp (fun _ hk => hk) trivial (Below.refl _ _) (Nat.le_refl _) (by simp) ?_; (case hd => rfl); (case hg => rfl); (case hr => first | (go_simp; done) | (go_simp; rfl)); (case hp => exact (Reps.none _ _)); intro v129 w8 ho9 hb hg_ hnew_; clear hg_ hnew_; (first | rw [← Ny128.out] at ho9 | (simp only [Int.reduceToNat] at ho9; rw [← Ny128.out] at ho9)); have n0_ := Aside0.mk (Kd.R_below (by (with_reducible repeat (first | apply Kd.R_alloc | apply Kd.R_drewN | apply Kd.R_drew)); exact HO127.out) hb); have n1_ := Aside0.mk (Kd.R_lower ho9 (below_size (by repeat (first | (with_reducible first | exact HB.out | apply below_alloc | apply pw_below_drewN | apply below_drew1) | exact HB.out)))); have n2_ := Aside0.mk (below_step (by repeat (first | (with_reducible first | exact HB.out | apply below_alloc | apply pw_below_drewN | apply below_drew1) | exact HB.out)) hb); clear HO127; clear HB; have HO127 := n0_; have HO130 := n1_; have HB := n2_; clear n0_ n1_ n2_; clear hb ho9))
        go_ret3
        exact ⟨_, _, by first | rfl | (simp [errW_none, errW_some] <;> rfl) | (simp [*, errW_none, errW_some] <;> rfl), by (with_reducible repeat (first | apply Kd.R_alloc | apply Kd.R_drewN | apply Kd.R_drew)); exact HO127.out, by (with_reducible repeat (first | apply Kd.R_alloc | apply Kd.R_drewN | apply Kd.R_drew)); exact HO130.out, by repeat (first | (with_reducible first | exact HB.out | apply below_alloc | apply pw_below_drewN | apply below_drew1) | exact HB.out)⟩
      · replace c5 := Bool.eq_false_iff.mpr c5
        subst c5
        have H1 : (if (l0.length : Int) = 4 then ((spec_l02Ints.f kj2 l0).bind fun t131 => (spec_RunPaxos.j1 kj2 l0 l1 (!t131))) else (spec_RunPaxos.j1 kj2 l0 l1 true)) = some (r1, r2, r3) := by rw [if_neg (show ¬ (false = true) by decide)] at H; exact H
        clear H
        have H := H1
        clear H1
        have HC10 := Aside0.mk H
        clear H
        go_upto_region 3 with (fail)
        go_cut [34] (fun v34 wc => ∃ (kq : Nat) (x34_9 : Bool), v34 = .bool x34_9 ∧ Aside0 (spec_RunPaxos.j1 kq l0 l1 x34_9 = some (r1, r2, r3)) ∧ Aside0 (kq ≤ kj2) ∧ Aside0 (Below w.heap.size w wc))
        case first =>
          have H := HC10.out
          clear HC10
          by_cases c11 : (l0.length : Int) = 4
          · rw [if_pos c11] at H
            have c11b0 : ((l0.length : Int) == 4) = true := beq_iff_eq.mpr c11
            have c11b1 : ((l0.length : Int) != 4) = false := bne_eq_false_iff_eq.mpr c11
            clear c11
            (first | rw [c11b0] | (simp only [i64_w, i32_w]; rw [c11b0]) | skip)
            replace H := Option.bind_eq_some_iff.mp H
            obtain ⟨t131, A120, H⟩ := H
            replace H : (spec_RunPaxos.j1 kj2 l0 l1 (!t131)) = some (r1, r2, r3) := H
            have A12 := Aside0.mk A120
            clear A120
            have H' := Aside0.mk H
            clear H
            go_wp2_with (first | (go_at_call 46; (with_reducible refine (spec_l02Ints.calls kj2 _ _ l0 t131 _ ?side1 ?side2 A12.out).mono ?_); (case side1 => repeat (first | exact (Kd.C_below HR0.out HB.out) | (with_reducible refine Kd.C_alloc ?_ _) | (with_reducible refine Kd.C_drewN ?_ _) | (with_reducible refine Kd.C_drew ?_))); (case side2 => exact HC0.out); rintro e w' ⟨rfl, ⟨nd, rfl⟩⟩))
            go_meet
            case rel => exact ⟨_, (!t131), (by first | rfl | (simp; done) | (simp [*]; done)), H', ⟨by have := HJ2.out; first | omega | exact Nat.le_refl _⟩, ⟨by repeat (first | (with_reducible first | exact HB.out | apply below_alloc | apply pw_below_drewN | apply below_drew1) | exact HB.out)⟩⟩
          · rw [if_neg c11] at H
            have c11b0 : ((l0.length : Int) == 4) = false := beq_eq_false_iff_ne.mpr c11
            have c11b1 : ((l0.length : Int) != 4) = true := bne_iff_ne.mpr c11
            (first | rw [c11b0] | (simp only [i64_w, i32_w]; rw [c11b0]) | skip)
            have H' := Aside0.mk H
            clear H
            go_wp2
            go_meet
            case rel => exact ⟨_, (true), (by first | rfl | (simp; done) | (simp [*]; done)), H', ⟨by have := HJ2.out; first | omega | exact Nat.le_refl _⟩, ⟨by repeat (first | (with_reducible first | exact HB.out | apply below_alloc | apply pw_below_drewN | apply below_drew1) | exact HB.out)⟩⟩
        case rest =>
          clear HC10
          try clear c1
          try clear p2
          try clear c4
          try clear c4b0
          try clear c4b1
          try clear c5
          try clear c11
          try clear c11b0
          try clear c11b1
          try clear p2
          obtain ⟨kq, x34_9, rfl, HA, HJ9, HB⟩ := hcut
          cases kq with
          | zero => exact absurd HA.out (by simp [spec_RunPaxos.j1])
          | succ kj9 =>
            have H := HA.out
            clear HA
            simp only [spec_RunPaxos.j1] at H
            by_cases c13 : x34_9 = true
            · subst c13
              have H1 : (some ((([] : List Int)), (([] : List (S53))), 1)) = some (r1, r2, r3) := by rw [if_pos rfl] at H; exact H
              clear H
              have H := H1
              clear H1
              obtain ⟨y132, hy132⟩ : ∃ y_ : List Int, y_ = (([] : List Int)) := ⟨_, rfl⟩
              replace H : (some (y132, (([] : List (S53))), 1)) = some (r1, r2, r3) := by first | (rw [hy132]; with_reducible exact H) | (have H2_ := (Option.bind_some _ _).symm.trans H; rw [hy132]; with_reducible exact H2_) | (have H2_ := (Option.bind_some _ _).symm.trans H; with_reducible exact H2_) | with_reducible exact H | (rw [hy132]; exact H) | exact H
              have Ny132 := Aside0.mk hy132
              clear hy132
              obtain ⟨y135, hy135⟩ : ∃ y_ : List (S53), y_ = (([] : List (S53))) := ⟨_, rfl⟩
              replace H : (some (y132, y135, 1)) = some (r1, r2, r3) := by first | (rw [hy135]; with_reducible exact H) | (have H2_ := (Option.bind_some _ _).symm.trans H; rw [hy135]; with_reducible exact H2_) | (have H2_ := (Option.bind_some _ _).symm.trans H; with_reducible exact H2_) | with_reducible exact H | (rw [hy135]; exact H) | exact H
              have Ny135 := Aside0.mk hy135
              clear hy135
              simp only [Option.some.injEq, Prod.mk.injEq] at H
              obtain ⟨rfl, rfl, rfl⟩ := H
              go_wp2_with (first | ((with_reducible refine gate_dst (N := 35) rfl ?_); refine Kd.R_lit (Kd.int .i64) _ 3 ?hg (N := 35) ?hd (xs := ([] : List Int)) (inner := []) (ok := fun _ => True) (okp := fun _ => True) ?hr ?hp (fun _ hk => hk) trivial (Below.refl _ _) (Nat.le_refl _) (by simp) ?_; (case hd => rfl); (case hg => rfl); (case hr => first | (go_simp; done) | (go_simp; rfl)); (case hp => exact (Reps.none _ _)); intro v133 w14 ho15 hb hg_ hnew_; clear hg_ hnew_; (first | rw [← Ny132.out] at ho15 | (simp only [Int.reduceToNat] at ho15; rw [← Ny132.out] at ho15)); have n0_ := Aside0.mk (Kd.R_lower ho15 (below_size (by repeat (first | (with_reducible first | exact HB.out | apply below_alloc | apply pw_below_drewN | apply below_drew1) | exact HB.out)))); have n1_ := Aside0.mk (below_step (by repeat (first | (with_reducible first | exact HB.out | apply below_alloc | apply pw_below_drewN | apply below_drew1) | exact HB.out)) hb); clear HB; have HO134 := n0_; have HB := n1_; clear n0_ n1_; clear hb ho15) | ((with_reducible refine gate_dst (N := 36) rfl ?_); refine Kd.R_lit k53 _ 53 ?hg (N := 36) ?hd (xs := ([] : List (S53))) (inner := []) (ok := fun _ => True) (okp := fun _ => True) ?hr ?hp (fun _ hk => hk) trivial (Below.refl _ _) (Nat.le_refl _) (by simp) ?_; (case hd => rfl); (case hg => rfl); (case hr => first | (go_simp; done) | (go_simp; rfl)); (case hp => exact (Reps.none _ _)); intro v136 w16 ho17 hb hg_ hnew_; clear hg_ hnew_; (first | rw [← Ny135.out] at ho17 | (simp only [Int.reduceToNat] at ho17; rw [← Ny135.out] at ho17)); have n0_ := Aside0.mk (Kd.R_below (by (with_reducible repeat (first | apply Kd.R_alloc | apply Kd.R_drewN | apply Kd.R_drew)); exact HO134.out) hb); have n1_ := Aside0.mk (Kd.R_lower ho17 (below_size (by repeat (first | (with_reducible first | exact HB.out | apply below_alloc | apply pw_below_drewN | apply below_drew1) | exact HB.out)))); have n2_ := Aside0.mk (below_step (by repeat (first | (with_reducible first | exact HB.out | apply below_alloc | apply pw_below_drewN | apply below_drew1) | exact HB.out)) hb); clear HO134; clear HB; have HO134 := n0_; have HO137 := n1_; have HB := n2_; clear n0_ n1_ n2_; clear hb ho17))
              go_ret3
              exact ⟨_, _, by first | rfl | (simp [errW_none, errW_some] <;> rfl) | (simp [*, errW_none, errW_some] <;> rfl), by (with_reducible repeat (first | apply Kd.R_alloc | apply Kd.R_drewN | apply Kd.R_drew)); exact HO134.out, by (with_reducible repeat (first | apply Kd.R_alloc | apply Kd.R_drewN | apply Kd.R_drew)); exact HO137.out, by repeat (first | (with_reducible first | exact HB.out | apply below_alloc | apply pw_below_drewN | apply below_drew1) | exact HB.out)⟩
            · replace c13 := Bool.eq_false_iff.mpr c13
              subst c13
              have H1 : (spec_RunPaxos.l0 kj9 l0 l1 (List.replicate 4 z53) (([] : List (S26))) 0) = some (r1, r2, r3) := by rw [if_neg (show ¬ (false = true) by decide)] at H; exact H
              clear H
              have H := H1
              clear H1
              obtain ⟨y138, hy138⟩ : ∃ y_ : List (S53), y_ = (List.replicate 4 z53) := ⟨_, rfl⟩
              replace H : (spec_RunPaxos.l0 kj9 l0 l1 y138 (([] : List (S26))) 0) = some (r1, r2, r3) := by first | (rw [hy138]; with_reducible exact H) | (have H2_ := (Option.bind_some _ _).symm.trans H; rw [hy138]; with_reducible exact H2_) | (have H2_ := (Option.bind_some _ _).symm.trans H; with_reducible exact H2_) | with_reducible exact H | (rw [hy138]; exact H) | exact H
              have Ny138 := Aside0.mk hy138
              clear hy138
              obtain ⟨y141, hy141⟩ : ∃ y_ : List (S26), y_ = (([] : List (S26))) := ⟨_, rfl⟩
              replace H : (spec_RunPaxos.l0 kj9 l0 l1 y138 y141 0) = some (r1, r2, r3) := by first | (rw [hy141]; with_reducible exact H) | (have H2_ := (Option.bind_some _ _).symm.trans H; rw [hy141]; with_reducible exact H2_) | (have H2_ := (Option.bind_some _ _).symm.trans H; with_reducible exact H2_) | with_reducible exact H | (rw [hy141]; exact H) | exact H
              have Ny141 := Aside0.mk hy141
              clear hy141
              have H' := Aside0.mk H
              clear H
              go_wp2_with (first | ((with_reducible refine gate_dst (N := 37) rfl ?_); refine Kd.R_make k53 _ 53 rfl (N := 37) rfl 27 _ _ rfl 4 rfl rfl Try.underlying27 (.agg #[(.int .i64 0), (.int .i64 0), (.int .i64 0), (.int .i64 0)]) 32 info53 rfl (by decide) (by omega) z53 (ok := fun _ => True) (okp := fun _ => True) (k53_mkM _ _ _ z53 ) (fun _ hk => hk) trivial (by omega) (by omega) (Below.refl _ _) (Nat.le_refl _) ?_; intro v139 w18 ho19 hb hg_ hnew_; clear hg_ hnew_; (first | rw [← Ny138.out] at ho19 | (simp only [Int.reduceToNat] at ho19; rw [← Ny138.out] at ho19)); have n0_ := Aside0.mk (Kd.R_lower ho19 (below_size (by repeat (first | (with_reducible first | exact HB.out | apply below_alloc | apply pw_below_drewN | apply below_drew1) | exact HB.out)))); have n1_ := Aside0.mk (below_step (by repeat (first | (with_reducible first | exact HB.out | apply below_alloc | apply pw_below_drewN | apply below_drew1) | exact HB.out)) hb); clear HB; have HO140 := n0_; have HB := n1_; clear n0_ n1_; clear hb ho19) | ((with_reducible refine gate_dst (N := 38) rfl ?_); refine Kd.R_lit k26 _ 26 ?hg (N := 38) ?hd (xs := ([] : List (S26))) (inner := []) (ok := fun _ => True) (okp := fun _ => True) ?hr ?hp (fun _ hk => hk) trivial (Below.refl _ _) (Nat.le_refl _) (by simp) ?_; (case hd => rfl); (case hg => rfl); (case hr => first | (go_simp; done) | (go_simp; rfl)); (case hp => exact (Reps.none _ _)); intro v142 w20 ho21 hb hg_ hnew_; clear hg_ hnew_; (first | rw [← Ny141.out] at ho21 | (simp only [Int.reduceToNat] at ho21; rw [← Ny141.out] at ho21)); have n0_ := Aside0.mk (Kd.R_below (by (with_reducible repeat (first | apply Kd.R_alloc | apply Kd.R_drewN | apply Kd.R_drew)); exact HO140.out) hb); have n1_ := Aside0.mk (Kd.R_lower ho21 (below_size (by repeat (first | (with_reducible first | exact HB.out | apply below_alloc | apply pw_below_drewN | apply below_drew1) | exact HB.out)))); have n2_ := Aside0.mk (below_step (by repeat (first | (with_reducible first | exact HB.out | apply below_alloc | apply pw_below_drewN | apply below_drew1) | exact HB.out)) hb); clear HO140; clear HB; have HO140 := n0_; have HO143 := n1_; have HB := n2_; clear n0_ n1_ n2_; clear hb ho21))
              go_loopg [8, 9] kj9 (fun kq v8 v9 w' => ∃ (x8_3 : List (S26)) (x9_3 : Int), v9 = .int .i64 x9_3 ∧ Aside0 (spec_RunPaxos.l0 kq l0 l1 y138 x8_3 x9_3 = some (r1, r2, r3)) ∧ Aside0 (kq ≤ kj9) ∧ Aside0 (Kd.R k53 53 w' w.heap.size (fun _ => True) v139 y138) ∧ Aside0 (Kd.R k26 26 w' w.heap.size (fun _ => True) v8 x8_3) ∧ Aside0 (Below w.heap.size w w'))
              case atStart => exact ⟨(y141), (0), (by first | rfl | (simp; done) | (simp [*]; done)), H', ⟨Nat.le_refl _⟩, ⟨by (with_reducible repeat (first | apply Kd.R_alloc | apply Kd.R_drewN | apply Kd.R_drew)); exact HO140.out⟩, ⟨by (with_reducible repeat (first | apply Kd.R_alloc | apply Kd.R_drewN | apply Kd.R_drew)); exact HO143.out⟩, ⟨by repeat (first | (with_reducible first | exact HB.out | apply below_alloc | apply pw_below_drewN | apply below_drew1) | exact HB.out)⟩⟩
              case round =>
                clear H'
                try clear c1
                try clear p2
                try clear c4
                try clear c4b0
                try clear c4b1
                try clear c5
                try clear c11
                try clear c11b0
                try clear c11b1
                try clear c13
                try clear c18
                try clear p2
                obtain ⟨x8_3, x9_3, rfl, HA, HK3, HO_7, HO_8, HB⟩ := hrel
                cases gk with
                | zero => exact absurd HA.out (by simp [spec_RunPaxos.l0])
                | succ k3 =>
                  have H := HA.out
                  clear HA
                  simp only [spec_RunPaxos.l0] at H
                  by_cases c22 : x9_3 < 4
                  · rw [if_pos c22] at H
                    have c22b0 : decide (x9_3 < 4) = true := decide_eq_true c22
                    clear c22
                    by_cases c23 : 0 ≤ x9_3
                    · rw [if_pos c23] at H
                      have c23b0 : decide (0 ≤ x9_3) = true := decide_eq_true c23
                      clear c23
                      by_cases c24 : x9_3 < (l0.length : Int)
                      · rw [if_pos c24] at H
                        have c24b0 : decide (x9_3 < (l0.length : Int)) = true := decide_eq_true c24
                        clear c24
                        by_cases c25 : x8_3.length < 2199023255552
                        · rw [if_pos c25] at H
                          have LMc25 := Aside0.mk c25
                          clear c25
                          obtain ⟨y145, hy145⟩ : ∃ y_ : List (S26), y_ = (x8_3 ++ [(⟨x9_3, 0, 6, 0, rd l0 x9_3, 0, 0, 0⟩ : S26)]) := ⟨_, rfl⟩
                          replace H : (spec_RunPaxos.l0 k3 l0 l1 y138 y145 (wrap64 (x9_3 + 1))) = some (r1, r2, r3) := by first | (rw [hy145]; with_reducible exact H) | (have H2_ := (Option.bind_some _ _).symm.trans H; rw [hy145]; with_reducible exact H2_) | (have H2_ := (Option.bind_some _ _).symm.trans H; with_reducible exact H2_) | with_reducible exact H | (rw [hy145]; exact H) | exact H
                          have Ny145 := Aside0.mk hy145
                          clear hy145
                          have H' := Aside0.mk H
                          clear H
                          have p144 : 0 ≤ (x9_3 : Int) := of_decide_eq_true (by first | (with_reducible assumption) | assumption)
                          have q144 : x9_3 < (l0.length : Int) := of_decide_eq_true (by first | (with_reducible assumption) | assumption)
                          obtain ⟨ad144, e144, hx144_0⟩ := Kd.at_int HR0.out x9_3 p144 q144
                          cases e144
                          replace hx144_0 := (HB.out.cell (World.block_lt_of_cell? w _ hx144_0)).trans hx144_0
                          replace p144 := eq_true p144
                          replace q144 := eq_true q144
                          go_wp2_with (first | ((with_reducible refine gate_builtin (b := .append) (xs := #[.tmp 43, .tmp 50]) rfl ?_); at_builtin; refine Kd.R_append k26 (w0 := w) w.heap.size rfl (.tmp 43) (.tmp 50) 66 26 (.agg #[(.int .i64 0), (.int .i64 0), (.int .i64 0), (.int .i64 0), (.int .i64 0), (.int .i64 0), (.int .i64 0), (.int .i64 0)]) 64 rfl Try.underlying66 info26 rfl (by decide) (by omega) u8 x8_3 (⟨x9_3, 0, 6, 0, rd l0 x9_3, 0, 0, 0⟩ : S26) [.int .i64 x9_3, .int .i64 0, .int .i64 6, .int .i64 0, .int .i64 (rd l0 x9_3), .int .i64 0, .int .i64 0, .int .i64 0] (fun _ => True) (fun _ => False) rfl rfl ?aP (fun _ hk => hk.elim) ?aF ?aO ?aB ?aS ?aL ?_; (case aP => exact k26_mkM _ _ _ (⟨x9_3, 0, 6, 0, rd l0 x9_3, 0, 0, 0⟩ : S26)); (case aB => exact (by repeat (first | (with_reducible first | exact HB.out | apply below_alloc | apply pw_below_drewN | apply below_drew1) | exact HB.out))); (case aF => exact (fun _ _ => trivial)); (case aO => exact (by (with_reducible repeat (first | apply Kd.R_alloc | apply Kd.R_drewN | apply Kd.R_drew)); exact HO_8.out)); (case aS => exact (below_size (by repeat (first | (with_reducible first | exact HB.out | apply below_alloc | apply pw_below_drewN | apply below_drew1) | exact HB.out)))); (case aL => have := LMc25.out; omega); intro v146 w26 ho hb hg hat; rw [← Ny145.out] at ho; have n0_ := Aside0.mk (Kd.R_over' (by (with_reducible repeat (first | apply Kd.R_alloc | apply Kd.R_drewN | apply Kd.R_drew)); exact HO_7.out) (Kd.R_typed (by (with_reducible repeat (first | apply Kd.R_alloc | apply Kd.R_drewN | apply Kd.R_drew)); exact HO_8.out)) (by decide) hg); have n1_ := Aside0.mk (hb); have n2_ := Aside0.mk (ho); clear HO_7; clear HB; clear HO_8; have HO_7 := n0_; have HB := n1_; have HO147 := n2_; clear n0_ n1_ n2_; clear ho hb hg hat))
                          go_roundg k3
                          case measure => have := HJ2.out; have := HJ9.out; have := HK3.out; omega
                          case rel => exact ⟨(y145), (wrap64 (x9_3 + 1)), (by first | rfl | (simp; done) | (simp [*]; done)), H', ⟨by have := HJ2.out; have := HJ9.out; have := HK3.out; omega⟩, ⟨by (with_reducible repeat (first | apply Kd.R_alloc | apply Kd.R_drewN | apply Kd.R_drew)); exact HO_7.out⟩, ⟨by (with_reducible repeat (first | apply Kd.R_alloc | apply Kd.R_drewN | apply Kd.R_drew)); exact HO147.out⟩, ⟨by repeat (first | (with_reducible first | exact HB.out | apply below_alloc | apply pw_below_drewN | apply below_drew1) | exact HB.out)⟩⟩
                        · rw [if_neg c25] at H
                          exact absurd H (by simp)
                      · rw [if_neg c24] at H
                        exact absurd H (by simp)
                    · rw [if_neg c23] at H
                      exact absurd H (by simp)
                  · rw [if_neg c22] at H
                    have c22b0 : decide (x9_3 < 4) = false := decide_eq_false c22
                    clear c22
                    have H' := Aside0.mk H
                    clear H
                    go_wp2
                    go_loopg [7, 10] k3 (fun kq v7 v10 w' => ∃ (x7_4 : List (S53)) (x8_4 : List (S26)) (x10_4 : Int), v10 = .int .i64 x10_4 ∧ Aside0 (spec_RunPaxos.l1 kq l0 l1 x7_4 x8_4 x10_4 = some (r1, r2, r3)) ∧ Aside0 (kq ≤ k3) ∧ Aside0 (Kd.R k53 53 w' w.heap.size (fun _ => True) v7 x7_4) ∧ Aside0 (Kd.R k26 26 w' w.heap.size (fun _ => True) u8 x8_4) ∧ Aside0 (Below w.heap.size w w'))
                    case atStart => exact ⟨(y138), (x8_3), (0), (by first | rfl | (simp; done) | (simp [*]; done)), H', ⟨Nat.le_refl _⟩, ⟨by (with_reducible repeat (first | apply Kd.R_alloc | apply Kd.R_drewN | apply Kd.R_drew)); exact HO_7.out⟩, ⟨by (with_reducible repeat (first | apply Kd.R_alloc | apply Kd.R_drewN | apply Kd.R_drew)); exact HO_8.out⟩, ⟨by repeat (first | (with_reducible first | exact HB.out | apply below_alloc | apply pw_below_drewN | apply below_drew1) | exact HB.out)⟩⟩
                    case round =>
                      clear H'
                      try clear c1
                      try clear p1
                      try clear q1
                      try clear hx1
                      try clear c2
                      try clear p2
                      try clear c4
                      try clear c4b0
                      try clear c4b1
                      try clear c5
                      try clear p6
                      try clear c11
                      try clear c11b0
                      try clear c11b1
                      try clear c13
                      try clear p14
                      try clear q14
                      try clear hx14
                      try clear c18
                      try clear c22
                      try clear c22b0
                      try clear c23
                      try clear c23b0
                      try clear c24
                      try clear c24b0
                      try clear c25
                      try clear hx144_0
                      try clear p144
                      try clear p2
                      try clear q144
                      obtain ⟨x7_4, x8_4, x10_4, rfl, HA, HK4, HO_7, HO_8, HB⟩ := hrel
                      cases gk with
                      | zero => exact absurd HA.out (by simp [spec_RunPaxos.l1])
                      | succ k4 =>
                        have H := HA.out
                        clear HA
                        simp only [spec_RunPaxos.l1] at H
                        by_cases c27 : x10_4 < (l1.length : Int)
                        · rw [if_pos c27] at H
                          have c27b0 : decide (x10_4 < (l1.length : Int)) = true := decide_eq_true c27
                          clear c27
                          by_cases c28 : 0 ≤ x10_4
                          · rw [if_pos c28] at H
                            have c28b0 : decide (0 ≤ x10_4) = true := decide_eq_true c28
                            clear c28
                            replace H := Option.bind_eq_some_iff.mp H
                            obtain ⟨t149, A290, H⟩ := H
                            replace H : (if t149 = true then (if 0 ≤ (rd l1 x10_4) then (if (rd l1 x10_4) < (x8_4.length : Int) then (if ((rd_T26 x8_4 (rd l1 x10_4)).f2) = 6 then ((spec_l05Next.f k4 (rd l1 x10_4) 0 x7_4).bind fun t157 => (if (rd l1 x10_4) < (l0.length : Int) then ((spec_l05Step.f (rd l1 x10_4) 0 1 t157 (rd l0 (rd l1 x10_4)) 0 0 0 x7_4).bind fun bt161 => (spec_RunPaxos.l1 k4 l0 l1 bt161.2.2.2.2.2.2.2.2.1 ((x8_4.set ((rd l1 x10_4) : Int).toNat (⟨rd l1 x10_4, 0, 1, t157, rd l0 (rd l1 x10_4), 0, 0, 0⟩ : S26)).set ((rd l1 x10_4) : Int).toNat (⟨bt161.1, bt161.2.1, bt161.2.2.1, bt161.2.2.2.1, bt161.2.2.2.2.1, bt161.2.2.2.2.2.1, bt161.2.2.2.2.2.2.1, bt161.2.2.2.2.2.2.2.1⟩ : S26)) (wrap64 (x10_4 + 1)))) else (none))) else ((spec_l05Step.f ((rd_T26 x8_4 (rd l1 x10_4)).f0) ((rd_T26 x8_4 (rd l1 x10_4)).f1) ((rd_T26 x8_4 (rd l1 x10_4)).f2) ((rd_T26 x8_4 (rd l1 x10_4)).f3) ((rd_T26 x8_4 (rd l1 x10_4)).f4) ((rd_T26 x8_4 (rd l1 x10_4)).f5) ((rd_T26 x8_4 (rd l1 x10_4)).f6) ((rd_T26 x8_4 (rd l1 x10_4)).f7) x7_4).bind fun bt176 => (spec_RunPaxos.l1 k4 l0 l1 bt176.2.2.2.2.2.2.2.2.1 (x8_4.set ((rd l1 x10_4) : Int).toNat (⟨bt176.1, bt176.2.1, bt176.2.2.1, bt176.2.2.2.1, bt176.2.2.2.2.1, bt176.2.2.2.2.2.1, bt176.2.2.2.2.2.2.1, bt176.2.2.2.2.2.2.2.1⟩ : S26)) (wrap64 (x10_4 + 1))))) else (none)) else (none)) else (some ((([] : List Int)), (([] : List (S53))), 4))) = some (r1, r2, r3) := H
                            have A29 := Aside0.mk A290
                            clear A290
                            by_cases c30 : t149 = true
                            · subst c30
                              have H1 : (if 0 ≤ (rd l1 x10_4) then (if (rd l1 x10_4) < (x8_4.length : Int) then (if ((rd_T26 x8_4 (rd l1 x10_4)).f2) = 6 then ((spec_l05Next.f k4 (rd l1 x10_4) 0 x7_4).bind fun t157 => (if (rd l1 x10_4) < (l0.length : Int) then ((spec_l05Step.f (rd l1 x10_4) 0 1 t157 (rd l0 (rd l1 x10_4)) 0 0 0 x7_4).bind fun bt161 => (spec_RunPaxos.l1 k4 l0 l1 bt161.2.2.2.2.2.2.2.2.1 ((x8_4.set ((rd l1 x10_4) : Int).toNat (⟨rd l1 x10_4, 0, 1, t157, rd l0 (rd l1 x10_4), 0, 0, 0⟩ : S26)).set ((rd l1 x10_4) : Int).toNat (⟨bt161.1, bt161.2.1, bt161.2.2.1, bt161.2.2.2.1, bt161.2.2.2.2.1, bt161.2.2.2.2.2.1, bt161.2.2.2.2.2.2.1, bt161.2.2.2.2.2.2.2.1⟩ : S26)) (wrap64 (x10_4 + 1)))) else (none))) else ((spec_l05Step.f ((rd_T26 x8_4 (rd l1 x10_4)).f0) ((rd_T26 x8_4 (rd l1 x10_4)).f1) ((rd_T26 x8_4 (rd l1 x10_4)).f2) ((rd_T26 x8_4 (rd l1 x10_4)).f3) ((rd_T26 x8_4 (rd l1 x10_4)).f4) ((rd_T26 x8_4 (rd l1 x10_4)).f5) ((rd_T26 x8_4 (rd l1 x10_4)).f6) ((rd_T26 x8_4 (rd l1 x10_4)).f7) x7_4).bind fun bt176 => (spec_RunPaxos.l1 k4 l0 l1 bt176.2.2.2.2.2.2.2.2.1 (x8_4.set ((rd l1 x10_4) : Int).toNat (⟨bt176.1, bt176.2.1, bt176.2.2.1, bt176.2.2.2.1, bt176.2.2.2.2.1, bt176.2.2.2.2.2.1, bt176.2.2.2.2.2.2.1, bt176.2.2.2.2.2.2.2.1⟩ : S26)) (wrap64 (x10_4 + 1))))) else (none)) else (none)) = some (r1, r2, r3) := by rw [if_pos rfl] at H; exact H
                              clear H
                              have H := H1
                              clear H1
                              by_cases c31 : 0 ≤ (rd l1 x10_4)
                              · rw [if_pos c31] at H
                                have c31b0 : decide (0 ≤ (rd l1 x10_4)) = true := decide_eq_true c31
                                clear c31
                                by_cases c32 : (rd l1 x10_4) < (x8_4.length : Int)
                                · rw [if_pos c32] at H
                                  have c32b0 : decide ((rd l1 x10_4) < (x8_4.length : Int)) = true := decide_eq_true c32
                                  clear c32
                                  by_cases c33 : ((rd_T26 x8_4 (rd l1 x10_4)).f2) = 6
                                  · rw [if_pos c33] at H
                                    have c33b0 : (((rd_T26 x8_4 (rd l1 x10_4)).f2) == 6) = true := beq_iff_eq.mpr c33
                                    have c33b1 : (((rd_T26 x8_4 (rd l1 x10_4)).f2) != 6) = false := bne_eq_false_iff_eq.mpr c33
                                    clear c33
                                    replace H := Option.bind_eq_some_iff.mp H
                                    obtain ⟨t157, A340, H⟩ := H
                                    replace H : (if (rd l1 x10_4) < (l0.length : Int) then ((spec_l05Step.f (rd l1 x10_4) 0 1 t157 (rd l0 (rd l1 x10_4)) 0 0 0 x7_4).bind fun bt161 => (spec_RunPaxos.l1 k4 l0 l1 bt161.2.2.2.2.2.2.2.2.1 ((x8_4.set ((rd l1 x10_4) : Int).toNat (⟨rd l1 x10_4, 0, 1, t157, rd l0 (rd l1 x10_4), 0, 0, 0⟩ : S26)).set ((rd l1 x10_4) : Int).toNat (⟨bt161.1, bt161.2.1, bt161.2.2.1, bt161.2.2.2.1, bt161.2.2.2.2.1, bt161.2.2.2.2.2.1, bt161.2.2.2.2.2.2.1, bt161.2.2.2.2.2.2.2.1⟩ : S26)) (wrap64 (x10_4 + 1)))) else (none)) = some (r1, r2, r3) := H
                                    have A34 := Aside0.mk A340
                                    clear A340
                                    by_cases c35 : (rd l1 x10_4) < (l0.length : Int)
                                    · rw [if_pos c35] at H
                                      have c35b0 : decide ((rd l1 x10_4) < (l0.length : Int)) = true := decide_eq_true c35
                                      clear c35
                                      obtain ⟨y159, hy159⟩ : ∃ y_ : List (S26), y_ = (x8_4.set ((rd l1 x10_4) : Int).toNat (⟨rd l1 x10_4, 0, 1, t157, rd l0 (rd l1 x10_4), 0, 0, 0⟩ : S26)) := ⟨_, rfl⟩
                                      replace H : ((spec_l05Step.f (rd l1 x10_4) 0 1 t157 (rd l0 (rd l1 x10_4)) 0 0 0 x7_4).bind fun bt161 => (spec_RunPaxos.l1 k4 l0 l1 bt161.2.2.2.2.2.2.2.2.1 (y159.set ((rd l1 x10_4) : Int).toNat (⟨bt161.1, bt161.2.1, bt161.2.2.1, bt161.2.2.2.1, bt161.2.2.2.2.1, bt161.2.2.2.2.2.1, bt161.2.2.2.2.2.2.1, bt161.2.2.2.2.2.2.2.1⟩ : S26)) (wrap64 (x10_4 + 1)))) = some (r1, r2, r3) := by first | (rw [hy159]; with_reducible exact H) | (have H2_ := (Option.bind_some _ _).symm.trans H; rw [hy159]; with_reducible exact H2_) | (have H2_ := (Option.bind_some _ _).symm.trans H; with_reducible exact H2_) | with_reducible exact H | (rw [hy159]; exact H) | exact H
                                      have Ny159 := Aside0.mk hy159
                                      clear hy159
                                      replace H := Option.bind_eq_some_iff.mp H
                                      obtain ⟨⟨t161, t162, t163, t164, t165, t166, t167, t168, t169, t172⟩, A380, H⟩ := H
                                      replace H : (spec_RunPaxos.l1 k4 l0 l1 t169 (y159.set ((rd l1 x10_4) : Int).toNat (⟨t161, t162, t163, t164, t165, t166, t167, t168⟩ : S26)) (wrap64 (x10_4 + 1))) = some (r1, r2, r3) := H
                                      have A38 := Aside0.mk A380
                                      clear A380
                                      obtain ⟨y174, hy174⟩ : ∃ y_ : List (S26), y_ = (y159.set ((rd l1 x10_4) : Int).toNat (⟨t161, t162, t163, t164, t165, t166, t167, t168⟩ : S26)) := ⟨_, rfl⟩
                                      replace H : (spec_RunPaxos.l1 k4 l0 l1 t169 y174 (wrap64 (x10_4 + 1))) = some (r1, r2, r3) := by first | (rw [hy174]; with_reducible exact H) | (have H2_ := (Option.bind_some _ _).symm.trans H; rw [hy174]; with_reducible exact H2_) | (have H2_ := (Option.bind_some _ _).symm.trans H; with_reducible exact H2_) | with_reducible exact H | (rw [hy174]; exact H) | exact H
                                      have Ny174 := Aside0.mk hy174
                                      clear hy174
                                      have H' := Aside0.mk H
                                      clear H
                                      have p148 : 0 ≤ (x10_4 : Int) := of_decide_eq_true (by first | (with_reducible assumption) | assumption)
                                      have q148 : x10_4 < (l1.length : Int) := of_decide_eq_true (by first | (with_reducible assumption) | assumption)
                                      obtain ⟨ad148, e148, hx148_0⟩ := Kd.at_int HR1.out x10_4 p148 q148
                                      cases e148
                                      replace hx148_0 := (HB.out.cell (World.block_lt_of_cell? w _ hx148_0)).trans hx148_0
                                      replace p148 := eq_true p148
                                      replace q148 := eq_true q148
                                      try go_wp2_with (first | ((with_reducible refine gate_callee (f := 47) rfl ?_); refine goesL_ (some 63) rfl rfl Try.func47 (by kernel_rfl) rfl #[.int .i64 (rd l1 x10_4)] rfl (by (try simp only [List.map_toArray, List.map_cons, List.map_nil]); first | done | rfl | (simp only [List.length_drop, List.length_take]; rfl)) ?_; (with_reducible refine (spec_l04Host.calls (rd l1 x10_4) true _ A29.out).mono ?_); rintro e w' ⟨rfl, ⟨nd, rfl⟩⟩; refine ⟨_, rfl, ?_⟩; (try (rw [drewN_self wr]; generalize hq_ : World.drewN wr _ = wr; have n0_ : Aside0 (Kd.R k53 53 wr w.heap.size (fun _ => True) u7 x7_4) := ⟨by rw [← hq_]; exact (by (with_reducible repeat (first | apply Kd.R_alloc | apply Kd.R_drewN | apply Kd.R_drew)); exact HO_7.out)⟩; have n1_ : Aside0 (Kd.R k26 26 wr w.heap.size (fun _ => True) u8 x8_4) := ⟨by rw [← hq_]; exact (by (with_reducible repeat (first | apply Kd.R_alloc | apply Kd.R_drewN | apply Kd.R_drew)); exact HO_8.out)⟩; have n2_ : Aside0 (Below w.heap.size w wr) := ⟨by rw [← hq_]; exact (by repeat (first | (with_reducible first | exact HB.out | apply below_alloc | apply pw_below_drewN | apply below_drew1) | exact HB.out))⟩; clear HO_7 HO_8 HB hq_; have HO_7 := n0_; have HO_8 := n1_; have HB := n2_; clear n0_ n1_ n2_)); obtain ⟨Ao40, co40, eo40⟩ := Kd.R_slice HO_8.out; subst eo40; have p156 : 0 ≤ ((rd l1 x10_4) : Int) := of_decide_eq_true (by first | (with_reducible assumption) | assumption); have q156 : (rd l1 x10_4) < (x8_4.length : Int) := of_decide_eq_true (by first | (with_reducible assumption) | assumption); obtain ⟨ad156, e156, hx156_0, hx156_1, hx156_2, hx156_3, hx156_4, hx156_5, hx156_6, hx156_7⟩ := at_T26 (Kd.R_reads' HO_8.out).2.2 (rd l1 x10_4) p156 q156; cases e156; replace p156 := eq_true p156; replace q156 := eq_true q156))
                                      have n0_ := Aside0.mk (Kd.R_drew HO_7.out)
                                      have n1_ := Aside0.mk (Kd.R_drew HO_8.out)
                                      have n2_ := Aside0.mk (below_drew1 HB.out)
                                      clear HO_7
                                      clear HO_8
                                      clear HB
                                      have HO_7 := n0_
                                      have HO_8 := n1_
                                      have HB := n2_
                                      clear n0_ n1_ n2_
                                      have p158 : 0 ≤ ((rd l1 x10_4) : Int) := of_decide_eq_true (by first | (with_reducible assumption) | assumption)
                                      have q158 : (rd l1 x10_4) < (l0.length : Int) := of_decide_eq_true (by first | (with_reducible assumption) | assumption)
                                      obtain ⟨ad158, e158, hx158_0⟩ := Kd.at_int HR0.out (rd l1 x10_4) p158 q158
                                      have hw158_0 := hx158_0
                                      cases e158
                                      replace hx158_0 := (HB.out.cell (World.block_lt_of_cell? w _ hx158_0)).trans hx158_0
                                      replace p158 := eq_true p158
                                      replace q158 := eq_true q158
                                      obtain ⟨Ao42, co42, eo42⟩ := Kd.R_slice HO_7.out
                                      (first | subst eo42 | (injection eo42 with f1_ f2_ f3_; have f4_ := f1_.symm; have f5_ := f3_.symm; clear f1_ f2_ f3_; subst f4_; subst f5_))
                                      refine start_ (n := 13) (S := fun w' => w'.cell? (ad158.add ((rd l1 x10_4)).toNat) = some (.int .i64 (rd l0 (rd l1 x10_4)))) (ds := [12]) #[false, false, false, false, false, false, false, false, false, false, false, false, false] (by kernel_rfl) rfl rfl (((HB.out.cell (World.block_lt_of_cell? w _ hw158_0)).trans hw158_0)) (fun hHeld => ?_); refine with_tabW spec_RunPaxos.tab18 spec_RunPaxos.bits18 (fun HT_ HW_ => ?_)
                                      generalize wr.drew = w41 at HO_7 HO_8 HB hx158_0 hHeld ⊢
                                      refine pure_ (i := 0) (N := some 73) (v := ?_) (a' := ?_) #[true, false, false, false, false, false, false, false, false, false, false, false, false] rfl rfl (any_of HT_.out (by kernel_rfl)) (fun _ _ _ h => h) (Or.inl ⟨by rfl, ?_⟩) ?_ ?_
                                      rotate_left
                                      · intro w'
                                        go_simp
                                        with_reducible rfl
                                      rotate_left
                                      · simp only [Act.put, List.setIfInBounds_toArray, List.set_cons_zero, List.set_cons_succ, i64_w, i32_w]
                                        rfl
                                      refine pure_ (i := 1) (N := some 74) (v := ?_) (a' := ?_) #[true, true, false, false, false, false, false, false, false, false, false, false, false] rfl rfl (any_of HT_.out (by kernel_rfl)) (fun _ _ _ h => h) (Or.inl ⟨by rfl, ?_⟩) ?_ ?_
                                      rotate_left
                                      · intro w'
                                        go_simp
                                        with_reducible rfl
                                      rotate_left
                                      · simp only [Act.put, List.setIfInBounds_toArray, List.set_cons_zero, List.set_cons_succ, i64_w, i32_w]
                                        rfl
                                      refine pure_ (i := 2) (N := some 75) (v := ?_) (a' := ?_) #[true, true, true, false, false, false, false, false, false, false, false, false, false] rfl rfl (any_of HT_.out (by kernel_rfl)) (fun _ _ _ h => h) (Or.inl ⟨by rfl, ?_⟩) ?_ ?_
                                      rotate_left
                                      · intro w'
                                        go_simp
                                        with_reducible rfl
                                      rotate_left
                                      · simp only [Act.put, List.setIfInBounds_toArray, List.set_cons_zero, List.set_cons_succ, i64_w, i32_w]
                                        rfl
                                      refine pure_ (i := 3) (N := some 76) (v := ?_) (a' := ?_) #[true, true, true, true, false, false, false, false, false, false, false, false, false] rfl rfl (any_of HT_.out (by kernel_rfl)) (fun _ _ _ h => h) (Or.inl ⟨by rfl, ?_⟩) ?_ ?_
                                      rotate_left
                                      · intro w'
                                        go_simp
                                        with_reducible rfl
                                      rotate_left
                                      · simp only [Act.put, List.setIfInBounds_toArray, List.set_cons_zero, List.set_cons_succ, i64_w, i32_w]
                                        rfl
                                      refine pure_ (i := 4) (N := some 77) (v := ?_) (a' := ?_) #[true, true, true, true, true, false, false, false, false, false, false, false, false] rfl rfl (any_of HT_.out (by kernel_rfl)) (fun _ _ _ h => h) (Or.inl ⟨by rfl, ?_⟩) ?_ ?_
                                      rotate_left
                                      · intro w'
                                        go_simp
                                        with_reducible rfl
                                      rotate_left
                                      · simp only [Act.put, List.setIfInBounds_toArray, List.set_cons_zero, List.set_cons_succ, i64_w, i32_w]
                                        rfl
                                      refine pure_ (i := 6) (N := some 79) (v := ?_) (a' := ?_) #[true, true, true, true, true, false, true, false, false, false, false, false, false] rfl rfl (any_of HT_.out (by kernel_rfl)) (fun _ _ _ h => h) (Or.inl ⟨by rfl, ?_⟩) ?_ ?_
                                      rotate_left
                                      · intro w'
                                        go_simp
                                        with_reducible rfl
                                      rotate_left
                                      · simp only [Act.put, List.setIfInBounds_toArray, List.set_cons_zero, List.set_cons_succ, i64_w, i32_w]
                                        rfl
                                      refine pure_ (i := 7) (N := some 80) (v := ?_) (a' := ?_) #[true, true, true, true, true, false, true, true, false, false, false, false, false] rfl rfl (any_of HT_.out (by kernel_rfl)) (fun _ _ _ h => h) (Or.inl ⟨by rfl, ?_⟩) ?_ ?_
                                      rotate_left
                                      · intro w'
                                        go_simp
                                        with_reducible rfl
                                      rotate_left
                                      · simp only [Act.put, List.setIfInBounds_toArray, List.set_cons_zero, List.set_cons_succ, i64_w, i32_w]
                                        rfl
                                      refine pure_ (i := 8) (N := some 81) (v := ?_) (a' := ?_) #[true, true, true, true, true, false, true, true, true, false, false, false, false] rfl rfl (any_of HT_.out (by kernel_rfl)) (fun _ _ _ h => h) (Or.inl ⟨by rfl, ?_⟩) ?_ ?_
                                      rotate_left
                                      · intro w'
                                        go_simp
                                        with_reducible rfl
                                      rotate_left
                                      · simp only [Act.put, List.setIfInBounds_toArray, List.set_cons_zero, List.set_cons_succ, i64_w, i32_w]
                                        rfl
                                      refine take_ (i := 9) (N := some 82) (v := ?_) (a' := ?_) #[true, true, true, true, true, false, true, true, true, true, false, false, false] rfl rfl (take_ofW HT_.out HW_.out (by kernel_rfl)) (fun _ _ _ h => h) (Or.inl ⟨by rfl, ?_⟩) hHeld ?_ ?_
                                      rotate_left
                                      · intro w' s0
                                        go_simp
                                        with_reducible rfl
                                      rotate_left
                                      · simp only [Act.put, List.setIfInBounds_toArray, List.set_cons_zero, List.set_cons_succ, i64_w, i32_w]
                                        rfl
                                      refine one_ (i := 5) (N := some 78) #[true, true, true, true, true, true, true, true, true, true, false, false, false] rfl rfl (one_of HT_.out (by kernel_rfl)) (by decide) (fun K hK => ?_)
                                      refine goes_ Try.func48 (by kernel_rfl) rfl #[.int .i64 (rd l1 x10_4), .int .i64 0, .slice Ao42 x7_4.length co42] (by rfl) rfl rfl (by (try simp only [List.map_toArray, List.map_cons, List.map_nil]); first | done | rfl | (simp only [List.length_drop, List.length_take]; rfl)) ?_
                                      with_reducible refine (spec_l05Next.calls k4 (rd l1 x10_4) 0 _ _ x7_4 t157 _ ?side1 ?side2 A34.out).mono ?_
                                      (case side1 => repeat (first | exact (Kd.R_reads' HO_7.out).2.2 | (with_reducible refine Kd.C_alloc ?_ _) | (with_reducible refine Kd.C_drewN ?_ _) | (with_reducible refine Kd.C_drew ?_)))
                                      (case side2 => exact (Kd.R_reads' HO_7.out).2.1)
                                      rintro e w43 ⟨rfl, hb⟩
                                      refine ⟨_, rfl, ?_⟩
                                      have n0_ := Aside0.mk (Kd.R_below (by (with_reducible repeat (first | apply Kd.R_alloc | apply Kd.R_drewN | apply Kd.R_drew)); exact HO_7.out) hb)
                                      have n1_ := Aside0.mk (Kd.R_below (by (with_reducible repeat (first | apply Kd.R_alloc | apply Kd.R_drewN | apply Kd.R_drew)); exact HO_8.out) hb)
                                      have n2_ := Aside0.mk (below_step (by repeat (first | (with_reducible first | exact HB.out | apply below_alloc | apply pw_below_drewN | apply below_drew1) | exact HB.out)) hb)
                                      clear HO_7
                                      clear HO_8
                                      clear HB
                                      have HO_7 := n0_
                                      have HO_8 := n1_
                                      have HB := n2_
                                      clear n0_ n1_ n2_
                                      (try clear hb)
                                      (try clear hb2)
                                      (try clear hk)
                                      (try clear hi)
                                      have p36 : 0 ≤ ((rd l1 x10_4) : Int) := of_decide_eq_true (by first | (with_reducible assumption) | assumption)
                                      have q36 : ((rd l1 x10_4) : Int) < ((x8_4.length : Int) : Int) := of_decide_eq_true (by first | (with_reducible assumption) | assumption)
                                      obtain ⟨go36, co36, eo36, gb36, gl36, cl36, HG36⟩ := Kd.R_form HO_8.out (by omega)
                                      (first | cases eo36 | (injection eo36 with ea_ en_ ec_; (first | subst ea_ | (injection ea_ with ea_; subst ea_)); subst ec_; clear en_))
                                      have GB36 := Aside0.mk gb36
                                      have GG36 := Aside0.mk HG36
                                      clear gb36 gl36 HG36
                                      (first | simp only [add_plain] at hx156_0 | skip)
                                      (first | simp only [add_plain] at hx156_1 | skip)
                                      (first | simp only [add_plain] at hx156_2 | skip)
                                      (first | simp only [add_plain] at hx156_3 | skip)
                                      (first | simp only [add_plain] at hx156_4 | skip)
                                      (first | simp only [add_plain] at hx156_5 | skip)
                                      (first | simp only [add_plain] at hx156_6 | skip)
                                      (first | simp only [add_plain] at hx156_7 | skip)
                                      obtain ⟨ce36, hcl36, hM36, hcc36, hfr36⟩ := Kd.R_elem HO_8.out z26 ((rd l1 x10_4) : Int) p36 q36
                                      obtain rfl := k26_openM hM36
                                      have hx36_0 : World.cell? _ ⟨go36, ((rd l1 x10_4) : Int).toNat * 8, none⟩ = some (.int .i64 ((rd_T26 x8_4 (rd l1 x10_4)).f0)) := hcc36 0 _ rfl
                                      have hx36_1 : World.cell? _ ⟨go36, ((rd l1 x10_4) : Int).toNat * 8 + 1, none⟩ = some (.int .i64 ((rd_T26 x8_4 (rd l1 x10_4)).f1)) := hcc36 1 _ rfl
                                      have hx36_2 : World.cell? _ ⟨go36, ((rd l1 x10_4) : Int).toNat * 8 + 2, none⟩ = some (.int .i64 ((rd_T26 x8_4 (rd l1 x10_4)).f2)) := hcc36 2 _ rfl
                                      have hx36_3 : World.cell? _ ⟨go36, ((rd l1 x10_4) : Int).toNat * 8 + 3, none⟩ = some (.int .i64 ((rd_T26 x8_4 (rd l1 x10_4)).f3)) := hcc36 3 _ rfl
                                      have hx36_4 : World.cell? _ ⟨go36, ((rd l1 x10_4) : Int).toNat * 8 + 4, none⟩ = some (.int .i64 ((rd_T26 x8_4 (rd l1 x10_4)).f4)) := hcc36 4 _ rfl
                                      have hx36_5 : World.cell? _ ⟨go36, ((rd l1 x10_4) : Int).toNat * 8 + 5, none⟩ = some (.int .i64 ((rd_T26 x8_4 (rd l1 x10_4)).f5)) := hcc36 5 _ rfl
                                      have hx36_6 : World.cell? _ ⟨go36, ((rd l1 x10_4) : Int).toNat * 8 + 6, none⟩ = some (.int .i64 ((rd_T26 x8_4 (rd l1 x10_4)).f6)) := hcc36 6 _ rfl
                                      have hx36_7 : World.cell? _ ⟨go36, ((rd l1 x10_4) : Int).toNat * 8 + 7, none⟩ = some (.int .i64 ((rd_T26 x8_4 (rd l1 x10_4)).f7)) := hcc36 7 _ rfl
                                      have hf36_0 : World.frozen? _ ⟨go36, ((rd l1 x10_4) : Int).toNat * 8, none⟩ = false := hfr36 0
                                      have hf36_1 : World.frozen? _ ⟨go36, ((rd l1 x10_4) : Int).toNat * 8 + 1, none⟩ = false := hfr36 1
                                      have hf36_2 : World.frozen? _ ⟨go36, ((rd l1 x10_4) : Int).toNat * 8 + 2, none⟩ = false := hfr36 2
                                      have hf36_3 : World.frozen? _ ⟨go36, ((rd l1 x10_4) : Int).toNat * 8 + 3, none⟩ = false := hfr36 3
                                      have hf36_4 : World.frozen? _ ⟨go36, ((rd l1 x10_4) : Int).toNat * 8 + 4, none⟩ = false := hfr36 4
                                      have hf36_5 : World.frozen? _ ⟨go36, ((rd l1 x10_4) : Int).toNat * 8 + 5, none⟩ = false := hfr36 5
                                      have hf36_6 : World.frozen? _ ⟨go36, ((rd l1 x10_4) : Int).toNat * 8 + 6, none⟩ = false := hfr36 6
                                      have hf36_7 : World.frozen? _ ⟨go36, ((rd l1 x10_4) : Int).toNat * 8 + 7, none⟩ = false := hfr36 7
                                      clear hcl36 hcc36 hfr36 hM36
                                      replace p36 := eq_true p36
                                      replace q36 := eq_true q36
                                      obtain ⟨ce44, hcl44, hM44, hcc44, hfr44⟩ := Kd.R_elem HO_8.out z26 ((rd l1 x10_4) : Int) (of_decide_eq_true (by first | (with_reducible assumption) | assumption)) (by have h_ : ((rd l1 x10_4) : Int) < ((x8_4.length : Int) : Int) := of_decide_eq_true (by first | (with_reducible assumption) | assumption); first | exact h_ | (have e_ := (Kd.R_reads' HO_8.out).1; omega) | simpa using h_)
                                      obtain rfl := k26_openM hM44
                                      have HP44 := (Kd.R_seg HO_8.out ((rd l1 x10_4) : Int) (of_decide_eq_true (by first | (with_reducible assumption) | assumption)) (by have h_ : ((rd l1 x10_4) : Int) < ((x8_4.length : Int) : Int) := of_decide_eq_true (by first | (with_reducible assumption) | assumption); first | exact h_ | (have e_ := (Kd.R_reads' HO_8.out).1; omega) | simpa using h_) (seg := [.int .i64 (rd l1 x10_4), .int .i64 0, .int .i64 1, .int .i64 t157, .int .i64 (rd l0 (rd l1 x10_4)), .int .i64 0, .int .i64 0, .int .i64 0]) (j := 0) hcl44 hcc44 (show 8 ≤ 8 from by decide) (x' := (⟨rd l1 x10_4, 0, 1, t157, rd l0 (rd l1 x10_4), 0, 0, 0⟩ : S26)) (k26_mkM _ _ _ (⟨rd l1 x10_4, 0, 1, t157, rd l0 (rd l1 x10_4), 0, 0, 0⟩ : S26) ) (fun _ hk => hk)).1
                                      rw [← Ny159.out] at HP44
                                      have HQ44 := Aside0.mk HP44
                                      clear hcl44 hcc44 hfr44 hM44 HP44
                                      refine hK.out _ _ (((HB.out.cell (World.block_lt_of_cell? w _ hw158_0)).trans hw158_0)) (fun hHeld => ?_)
                                      clear hK K
                                      refine norm_ (a' := ?_) ?_ ?_
                                      rotate_left
                                      · show Act.put _ (some 78) _ = _
                                        simp only [Act.put, List.setIfInBounds_toArray, List.set_cons_zero, List.set_cons_succ, i64_w, i32_w]
                                        rfl
                                      refine pure_ (i := 10) (N := some 83) (v := ?_) (a' := ?_) #[true, true, true, true, true, true, true, true, true, true, true, false, false] rfl rfl (any_of HT_.out (by kernel_rfl)) (fun _ _ _ h => h) (Or.inl ⟨by rfl, ?_⟩) ?_ ?_
                                      rotate_left
                                      · intro w'
                                        go_simp
                                        with_reducible rfl
                                      rotate_left
                                      · simp only [Act.put, List.setIfInBounds_toArray, List.set_cons_zero, List.set_cons_succ, i64_w, i32_w]
                                        rfl
                                      refine pure_ (i := 11) (N := some 84) (v := ?_) (a' := ?_) #[true, true, true, true, true, true, true, true, true, true, true, true, false] rfl rfl (any_of HT_.out (by kernel_rfl)) (fun _ _ _ h => h) (Or.inl ⟨by rfl, ?_⟩) ?_ ?_
                                      rotate_left
                                      · intro w'
                                        go_simp
                                        with_reducible rfl
                                      rotate_left
                                      · simp only [Act.put, List.setIfInBounds_toArray, List.set_cons_zero, List.set_cons_succ, i64_w, i32_w]
                                        rfl
                                      refine last_ (i := 12) (N := none) #[true, true, true, true, true, true, true, true, true, true, true, true, true] rfl rfl (one_of HT_.out (by kernel_rfl)) (by decide) (fun K hK => ?_)
                                      refine skip_ (w1 := ?_) (by rfl) rfl ?_ ?_
                                      rotate_left
                                      · go_simp
                                        rfl
                                      refine hK.out _ _ ?_
                                      clear hK K
                                      refine done_ (done_of HT_.out (by kernel_rfl)) ?_
                                      have n0_ : Aside0 (Kd.R k53 53 ((((((((w43.setCell ⟨go36, ((rd l1 x10_4) : Int).toNat * 8, none⟩ (.int .i64 (rd l1 x10_4))).setCell ⟨go36, ((rd l1 x10_4) : Int).toNat * 8 + 1, none⟩ (.int .i64 0)).setCell ⟨go36, ((rd l1 x10_4) : Int).toNat * 8 + 2, none⟩ (.int .i64 1)).setCell ⟨go36, ((rd l1 x10_4) : Int).toNat * 8 + 3, none⟩ (.int .i64 t157)).setCell ⟨go36, ((rd l1 x10_4) : Int).toNat * 8 + 4, none⟩ (.int .i64 (rd l0 (rd l1 x10_4)))).setCell ⟨go36, ((rd l1 x10_4) : Int).toNat * 8 + 5, none⟩ (.int .i64 0)).setCell ⟨go36, ((rd l1 x10_4) : Int).toNat * 8 + 6, none⟩ (.int .i64 0)).setCell ⟨go36, ((rd l1 x10_4) : Int).toNat * 8 + 7, none⟩ (.int .i64 0)) w.heap.size (fun _ => True) (.slice Ao42 x7_4.length co42) x7_4) := ⟨by (with_reducible repeat (first | apply Kd.R_alloc | apply Kd.R_drewN | apply Kd.R_drew)); exact Kd.R_mono (Kd.R_far (p := ⟨go36, ((rd l1 x10_4) : Int).toNat * 8 + 7, none⟩) (Kd.R_far (p := ⟨go36, ((rd l1 x10_4) : Int).toNat * 8 + 6, none⟩) (Kd.R_far (p := ⟨go36, ((rd l1 x10_4) : Int).toNat * 8 + 5, none⟩) (Kd.R_far (p := ⟨go36, ((rd l1 x10_4) : Int).toNat * 8 + 4, none⟩) (Kd.R_far (p := ⟨go36, ((rd l1 x10_4) : Int).toNat * 8 + 3, none⟩) (Kd.R_far (p := ⟨go36, ((rd l1 x10_4) : Int).toNat * 8 + 2, none⟩) (Kd.R_far (p := ⟨go36, ((rd l1 x10_4) : Int).toNat * 8 + 1, none⟩) (Kd.R_far (p := ⟨go36, ((rd l1 x10_4) : Int).toNat * 8, none⟩) (Kd.R_types HO_7.out GG36.out (by decide)) (fun _ hk => hk.2) (.int .i64 (rd l1 x10_4))) (fun _ hk => hk.2) (.int .i64 0)) (fun _ hk => hk.2) (.int .i64 1)) (fun _ hk => hk.2) (.int .i64 t157)) (fun _ hk => hk.2) (.int .i64 (rd l0 (rd l1 x10_4)))) (fun _ hk => hk.2) (.int .i64 0)) (fun _ hk => hk.2) (.int .i64 0)) (fun _ hk => hk.2) (.int .i64 0)) (fun _ hk => trivial)⟩
                                      have n1_ : Aside0 (Kd.R k26 26 ((((((((w43.setCell ⟨go36, ((rd l1 x10_4) : Int).toNat * 8, none⟩ (.int .i64 (rd l1 x10_4))).setCell ⟨go36, ((rd l1 x10_4) : Int).toNat * 8 + 1, none⟩ (.int .i64 0)).setCell ⟨go36, ((rd l1 x10_4) : Int).toNat * 8 + 2, none⟩ (.int .i64 1)).setCell ⟨go36, ((rd l1 x10_4) : Int).toNat * 8 + 3, none⟩ (.int .i64 t157)).setCell ⟨go36, ((rd l1 x10_4) : Int).toNat * 8 + 4, none⟩ (.int .i64 (rd l0 (rd l1 x10_4)))).setCell ⟨go36, ((rd l1 x10_4) : Int).toNat * 8 + 5, none⟩ (.int .i64 0)).setCell ⟨go36, ((rd l1 x10_4) : Int).toNat * 8 + 6, none⟩ (.int .i64 0)).setCell ⟨go36, ((rd l1 x10_4) : Int).toNat * 8 + 7, none⟩ (.int .i64 0)) w.heap.size (fun _ => True) (.slice (some ⟨go36, 0, none⟩) x8_4.length co40) y159) := ⟨by (with_reducible repeat (first | apply Kd.R_alloc | apply Kd.R_drewN | apply Kd.R_drew)); exact HQ44.out⟩
                                      have n2_ : Aside0 (Below w.heap.size w ((((((((w43.setCell ⟨go36, ((rd l1 x10_4) : Int).toNat * 8, none⟩ (.int .i64 (rd l1 x10_4))).setCell ⟨go36, ((rd l1 x10_4) : Int).toNat * 8 + 1, none⟩ (.int .i64 0)).setCell ⟨go36, ((rd l1 x10_4) : Int).toNat * 8 + 2, none⟩ (.int .i64 1)).setCell ⟨go36, ((rd l1 x10_4) : Int).toNat * 8 + 3, none⟩ (.int .i64 t157)).setCell ⟨go36, ((rd l1 x10_4) : Int).toNat * 8 + 4, none⟩ (.int .i64 (rd l0 (rd l1 x10_4)))).setCell ⟨go36, ((rd l1 x10_4) : Int).toNat * 8 + 5, none⟩ (.int .i64 0)).setCell ⟨go36, ((rd l1 x10_4) : Int).toNat * 8 + 6, none⟩ (.int .i64 0)).setCell ⟨go36, ((rd l1 x10_4) : Int).toNat * 8 + 7, none⟩ (.int .i64 0))) := ⟨by repeat (first | (with_reducible first | exact HB.out | apply below_alloc | apply pw_below_drewN | apply below_drew1 | refine below_set ?_ GB36.out | refine below_set ?_ GB36.out | refine below_set ?_ GB36.out | refine below_set ?_ GB36.out | refine below_set ?_ GB36.out | refine below_set ?_ GB36.out | refine below_set ?_ GB36.out | refine below_set ?_ GB36.out) | exact HB.out)⟩
                                      (try clear HO_7)
                                      (try clear HO_8)
                                      (try clear HB)
                                      generalize ((((((((w43.setCell ⟨go36, ((rd l1 x10_4) : Int).toNat * 8, none⟩ (.int .i64 (rd l1 x10_4))).setCell ⟨go36, ((rd l1 x10_4) : Int).toNat * 8 + 1, none⟩ (.int .i64 0)).setCell ⟨go36, ((rd l1 x10_4) : Int).toNat * 8 + 2, none⟩ (.int .i64 1)).setCell ⟨go36, ((rd l1 x10_4) : Int).toNat * 8 + 3, none⟩ (.int .i64 t157)).setCell ⟨go36, ((rd l1 x10_4) : Int).toNat * 8 + 4, none⟩ (.int .i64 (rd l0 (rd l1 x10_4)))).setCell ⟨go36, ((rd l1 x10_4) : Int).toNat * 8 + 5, none⟩ (.int .i64 0)).setCell ⟨go36, ((rd l1 x10_4) : Int).toNat * 8 + 6, none⟩ (.int .i64 0)).setCell ⟨go36, ((rd l1 x10_4) : Int).toNat * 8 + 7, none⟩ (.int .i64 0)) = w45 at n0_ n1_ n2_ ⊢
                                      have HO_7 := n0_
                                      have HO_8 := n1_
                                      have HB := n2_
                                      clear n0_ n1_ n2_
                                      have p37 : 0 ≤ ((rd l1 x10_4) : Int) := of_decide_eq_true (by first | (with_reducible assumption) | assumption)
                                      have q37 : ((rd l1 x10_4) : Int) < ((x8_4.length : Int) : Int) := of_decide_eq_true (by first | (with_reducible assumption) | assumption)
                                      replace p37 := eq_true p37
                                      replace q37 := eq_true q37
                                      obtain ⟨⟨zx0, zx1, zx2, zx3, zx4, zx5, zx6, zx7⟩, zf0, zf1, zf2, zf3, zf4, zf5, zf6, zf7⟩ := rp_cells_set HO_8.out Ny159.out (of_eq_true p37) (of_eq_true q37)
                                      go_wp2_with (first | ((with_reducible refine gate_callee (f := 37) rfl ?_); refine goesL_ (some 91) rfl rfl Try.func37 (by kernel_rfl) rfl #[.agg #[.int .i64 (rd l1 x10_4), .int .i64 0, .int .i64 1, .int .i64 t157, .int .i64 (rd l0 (rd l1 x10_4)), .int .i64 0, .int .i64 0, .int .i64 0], .slice Ao42 x7_4.length co42] rfl (by (try simp only [List.map_toArray, List.map_cons, List.map_nil]); first | done | rfl | (simp only [List.length_drop, List.length_take]; rfl)) ?_; (with_reducible refine (spec_l05Step.calls (rd l1 x10_4) 0 1 t157 (rd l0 (rd l1 x10_4)) 0 0 0 _ _ x7_4 t161 t162 t163 t164 t165 t166 t167 t168 t169 t172 _ ?side1 ?side2 A38.out).mono ?_); (case side1 => repeat (first | exact (Kd.R_reads' HO_7.out).2.2 | (with_reducible refine Kd.C_alloc ?_ _) | (with_reducible refine Kd.C_drewN ?_ _) | (with_reducible refine Kd.C_drew ?_))); (case side2 => exact (Kd.R_reads' HO_7.out).2.1); rintro e w46 ⟨v170, rfl, ho0, hb⟩; refine ⟨_, rfl, ?_⟩; have n0_ := Aside0.mk (Kd.R_elder' (by (with_reducible repeat (first | apply Kd.R_alloc | apply Kd.R_drewN | apply Kd.R_drew)); exact HO_7.out) (Kd.R_base ho0) hb); have n1_ := Aside0.mk (Kd.R_below (by (with_reducible repeat (first | apply Kd.R_alloc | apply Kd.R_drewN | apply Kd.R_drew)); exact HO_8.out) hb); have n2_ := Aside0.mk (Kd.R_lower (Kd.R_new' ho0 (Kd.R_lt (by (with_reducible repeat (first | apply Kd.R_alloc | apply Kd.R_drewN | apply Kd.R_drew)); exact HO_7.out))) (below_size (by repeat (first | (with_reducible first | exact HB.out | apply below_alloc | apply pw_below_drewN | apply below_drew1) | exact HB.out)))); have n3_ := Aside0.mk (below_step (by repeat (first | (with_reducible first | exact HB.out | apply below_alloc | apply pw_below_drewN | apply below_drew1) | exact HB.out)) hb); clear HO_7; clear HO_8; clear HB; have HO_7 := n0_; have HO_8 := n1_; have HO171 := n2_; have HB := n3_; clear n0_ n1_ n2_ n3_; (try clear hb); (try clear hb2); (try clear hk); (try clear hi); (try clear ho0)) | ((with_reducible refine gate_dst (N := 12) rfl ?_); refine box_event ?hg (N := 12) ?hd (cs := #[.int .i64 0, .int .i64 0, .int .i64 0, .int .i64 0, .int .i64 0, .int .i64 0, .int .i64 0, .int .i64 0]) (t := 26) ?hr ?_; (case hd => rfl); (case hg => rfl); (case hr => first | (go_simp; done) | (go_simp; rfl)); intro gb173 hg w47 hbox hb; have n0_ := Aside0.mk (Kd.R_below (by (with_reducible repeat (first | apply Kd.R_alloc | apply Kd.R_drewN | apply Kd.R_drew)); exact HO_7.out) hb); have n1_ := Aside0.mk (Kd.R_below (Kd.R_elderB (by (with_reducible repeat (first | apply Kd.R_alloc | apply Kd.R_drewN | apply Kd.R_drew)); exact HO_8.out) gb173 (Nat.le_of_eq hg.symm)) hb); have n2_ := Aside0.mk (Kd.R_below (by (with_reducible repeat (first | apply Kd.R_alloc | apply Kd.R_drewN | apply Kd.R_drew)); exact HO171.out) hb); have n3_ := Aside0.mk (below_step (by repeat (first | (with_reducible first | exact HB.out | apply below_alloc | apply pw_below_drewN | apply below_drew1) | exact HB.out)) hb); have n4_ := Aside0.mk (hbox); have n5_ := Aside0.mk ((by rw [hg]; exact (below_size (by repeat (first | (with_reducible first | exact HB.out | apply below_alloc | apply pw_below_drewN | apply below_drew1) | exact HB.out))) : w.heap.size ≤ gb173)); have n6_ := Aside0.mk ((by rw [hg]; exact (below_size (by repeat (first | (with_reducible first | exact HB.out | apply below_alloc | apply pw_below_drewN | apply below_drew1) | exact HB.out))) : w.heap.size ≤ gb173)); clear HO_7; clear HO_8; clear HO171; clear HB; have HO_7 := n0_; have HO_8 := n1_; have HO171 := n2_; have HB := n3_; have BK173 := n4_; have GW173 := n5_; have GE173 := n6_; clear n0_ n1_ n2_ n3_ n4_ n5_ n6_; clear hb hbox hg; have hcz48_0 : w47.cell? ⟨gb173, 0, none⟩ = some (.int .i64 0) := (blk_cell BK173.out 0).trans rfl; have hcz48_1 : w47.cell? ⟨gb173, 1, none⟩ = some (.int .i64 0) := (blk_cell BK173.out 1).trans rfl; have hcz48_2 : w47.cell? ⟨gb173, 2, none⟩ = some (.int .i64 0) := (blk_cell BK173.out 2).trans rfl; have hcz48_3 : w47.cell? ⟨gb173, 3, none⟩ = some (.int .i64 0) := (blk_cell BK173.out 3).trans rfl; have hcz48_4 : w47.cell? ⟨gb173, 4, none⟩ = some (.int .i64 0) := (blk_cell BK173.out 4).trans rfl; have hcz48_5 : w47.cell? ⟨gb173, 5, none⟩ = some (.int .i64 0) := (blk_cell BK173.out 5).trans rfl; have hcz48_6 : w47.cell? ⟨gb173, 6, none⟩ = some (.int .i64 0) := (blk_cell BK173.out 6).trans rfl; have hcz48_7 : w47.cell? ⟨gb173, 7, none⟩ = some (.int .i64 0) := (blk_cell BK173.out 7).trans rfl; have hfz48_0 := blk_frozen BK173.out 0; have hfz48_1 := blk_frozen BK173.out 1; have hfz48_2 := blk_frozen BK173.out 2; have hfz48_3 := blk_frozen BK173.out 3; have hfz48_4 := blk_frozen BK173.out 4; have hfz48_5 := blk_frozen BK173.out 5; have hfz48_6 := blk_frozen BK173.out 6; have hfz48_7 := blk_frozen BK173.out 7) | ((with_reducible refine gate_store (t := 26) (p := 12) rfl ?_); refine store_event (t := 26) (p := 12) (v := ?vo_w49) (w1 := ((((((((w47.setCell ⟨gb173, 0, none⟩ (.int .i64 t161)).setCell ⟨gb173, 1, none⟩ (.int .i64 t162)).setCell ⟨gb173, 2, none⟩ (.int .i64 t163)).setCell ⟨gb173, 3, none⟩ (.int .i64 t164)).setCell ⟨gb173, 4, none⟩ (.int .i64 t165)).setCell ⟨gb173, 5, none⟩ (.int .i64 t166)).setCell ⟨gb173, 6, none⟩ (.int .i64 t167)).setCell ⟨gb173, 7, none⟩ (.int .i64 t168))) ?hg ?ho ?hn ?hr ?_; (case ho => rfl); (case hg => rfl); (case hn => rfl); (case hr => first | (go_simp; done) | (go_simp; rfl)); intro w49 hw; have n0_ : Aside0 (Kd.R k53 53 w49 w.heap.size (fun k_ => some k_ ≠ (v170 : Value).ownBlock) (.slice Ao42 x7_4.length co42) x7_4) := ⟨(by rw [hw]; exact (by (with_reducible repeat (first | apply Kd.R_alloc | apply Kd.R_drewN | apply Kd.R_drew)); exact Kd.R_mono (Kd.R_far (p := ⟨gb173, 7, none⟩) (Kd.R_far (p := ⟨gb173, 6, none⟩) (Kd.R_far (p := ⟨gb173, 5, none⟩) (Kd.R_far (p := ⟨gb173, 4, none⟩) (Kd.R_far (p := ⟨gb173, 3, none⟩) (Kd.R_far (p := ⟨gb173, 2, none⟩) (Kd.R_far (p := ⟨gb173, 1, none⟩) (Kd.R_far (p := ⟨gb173, 0, none⟩) (Kd.R_types HO_7.out BK173.out (by decide)) (fun _ hk => hk.2) (.int .i64 t161)) (fun _ hk => hk.2) (.int .i64 t162)) (fun _ hk => hk.2) (.int .i64 t163)) (fun _ hk => hk.2) (.int .i64 t164)) (fun _ hk => hk.2) (.int .i64 t165)) (fun _ hk => hk.2) (.int .i64 t166)) (fun _ hk => hk.2) (.int .i64 t167)) (fun _ hk => hk.2) (.int .i64 t168)) (fun _ hk => hk.1.2)))⟩; have n1_ : Aside0 (Kd.R k26 26 w49 w.heap.size (fun k_ => k_ ≠ gb173) (.slice (some ⟨go36, 0, none⟩) x8_4.length co40) y159) := ⟨(by rw [hw]; exact (by (with_reducible repeat (first | apply Kd.R_alloc | apply Kd.R_drewN | apply Kd.R_drew)); exact Kd.R_mono (Kd.R_far (p := ⟨gb173, 7, none⟩) (Kd.R_far (p := ⟨gb173, 6, none⟩) (Kd.R_far (p := ⟨gb173, 5, none⟩) (Kd.R_far (p := ⟨gb173, 4, none⟩) (Kd.R_far (p := ⟨gb173, 3, none⟩) (Kd.R_far (p := ⟨gb173, 2, none⟩) (Kd.R_far (p := ⟨gb173, 1, none⟩) (Kd.R_far (p := ⟨gb173, 0, none⟩) (Kd.R_mono HO_8.out (fun k_ hk => (⟨hk, hk.2⟩ : _ ∧ k_ ≠ gb173))) (fun _ hk => hk.2) (.int .i64 t161)) (fun _ hk => hk.2) (.int .i64 t162)) (fun _ hk => hk.2) (.int .i64 t163)) (fun _ hk => hk.2) (.int .i64 t164)) (fun _ hk => hk.2) (.int .i64 t165)) (fun _ hk => hk.2) (.int .i64 t166)) (fun _ hk => hk.2) (.int .i64 t167)) (fun _ hk => hk.2) (.int .i64 t168)) (fun _ hk => hk.1.2)))⟩; have n2_ : Aside0 (Kd.R k53 53 w49 w.heap.size (fun k_ => some k_ ≠ (.slice Ao42 x7_4.length co42 : Value).ownBlock) v170 t169) := ⟨(by rw [hw]; exact (by (with_reducible repeat (first | apply Kd.R_alloc | apply Kd.R_drewN | apply Kd.R_drew)); exact Kd.R_mono (Kd.R_far (p := ⟨gb173, 7, none⟩) (Kd.R_far (p := ⟨gb173, 6, none⟩) (Kd.R_far (p := ⟨gb173, 5, none⟩) (Kd.R_far (p := ⟨gb173, 4, none⟩) (Kd.R_far (p := ⟨gb173, 3, none⟩) (Kd.R_far (p := ⟨gb173, 2, none⟩) (Kd.R_far (p := ⟨gb173, 1, none⟩) (Kd.R_far (p := ⟨gb173, 0, none⟩) (Kd.R_types HO171.out BK173.out (by decide)) (fun _ hk => hk.2) (.int .i64 t161)) (fun _ hk => hk.2) (.int .i64 t162)) (fun _ hk => hk.2) (.int .i64 t163)) (fun _ hk => hk.2) (.int .i64 t164)) (fun _ hk => hk.2) (.int .i64 t165)) (fun _ hk => hk.2) (.int .i64 t166)) (fun _ hk => hk.2) (.int .i64 t167)) (fun _ hk => hk.2) (.int .i64 t168)) (fun _ hk => hk.1.2)))⟩; have n3_ : Aside0 (w49.heap[gb173]? = some (.cells #[.int .i64 t161, .int .i64 t162, .int .i64 t163, .int .i64 t164, .int .i64 t165, .int .i64 t166, .int .i64 t167, .int .i64 t168] 26 (0, 0))) := ⟨(by rw [hw]; exact (by (with_reducible repeat (first | refine blk_drewN ?_ _ | refine blk_drew ?_ | refine blk_alloc ?_ _)); refine blk_put (cs := #[.int .i64 t161, .int .i64 t162, .int .i64 t163, .int .i64 t164, .int .i64 t165, .int .i64 t166, .int .i64 t167, .int .i64 0]) ?_ 7 _ rfl; (with_reducible repeat (first | refine blk_drewN ?_ _ | refine blk_drew ?_ | refine blk_alloc ?_ _)); refine blk_put (cs := #[.int .i64 t161, .int .i64 t162, .int .i64 t163, .int .i64 t164, .int .i64 t165, .int .i64 t166, .int .i64 0, .int .i64 0]) ?_ 6 _ rfl; (with_reducible repeat (first | refine blk_drewN ?_ _ | refine blk_drew ?_ | refine blk_alloc ?_ _)); refine blk_put (cs := #[.int .i64 t161, .int .i64 t162, .int .i64 t163, .int .i64 t164, .int .i64 t165, .int .i64 0, .int .i64 0, .int .i64 0]) ?_ 5 _ rfl; (with_reducible repeat (first | refine blk_drewN ?_ _ | refine blk_drew ?_ | refine blk_alloc ?_ _)); refine blk_put (cs := #[.int .i64 t161, .int .i64 t162, .int .i64 t163, .int .i64 t164, .int .i64 0, .int .i64 0, .int .i64 0, .int .i64 0]) ?_ 4 _ rfl; (with_reducible repeat (first | refine blk_drewN ?_ _ | refine blk_drew ?_ | refine blk_alloc ?_ _)); refine blk_put (cs := #[.int .i64 t161, .int .i64 t162, .int .i64 t163, .int .i64 0, .int .i64 0, .int .i64 0, .int .i64 0, .int .i64 0]) ?_ 3 _ rfl; (with_reducible repeat (first | refine blk_drewN ?_ _ | refine blk_drew ?_ | refine blk_alloc ?_ _)); refine blk_put (cs := #[.int .i64 t161, .int .i64 t162, .int .i64 0, .int .i64 0, .int .i64 0, .int .i64 0, .int .i64 0, .int .i64 0]) ?_ 2 _ rfl; (with_reducible repeat (first | refine blk_drewN ?_ _ | refine blk_drew ?_ | refine blk_alloc ?_ _)); refine blk_put (cs := #[.int .i64 t161, .int .i64 0, .int .i64 0, .int .i64 0, .int .i64 0, .int .i64 0, .int .i64 0, .int .i64 0]) ?_ 1 _ rfl; (with_reducible repeat (first | refine blk_drewN ?_ _ | refine blk_drew ?_ | refine blk_alloc ?_ _)); refine blk_put (cs := #[.int .i64 0, .int .i64 0, .int .i64 0, .int .i64 0, .int .i64 0, .int .i64 0, .int .i64 0, .int .i64 0]) ?_ 0 _ rfl; (with_reducible repeat (first | refine blk_drewN ?_ _ | refine blk_drew ?_ | refine blk_alloc ?_ _)); exact BK173.out))⟩; have n4_ : Aside0 (Below w.heap.size w w49) := ⟨(by rw [hw]; exact (by repeat (first | (with_reducible first | exact HB.out | apply below_alloc | apply pw_below_drewN | apply below_drew1 | refine below_set ?_ GE173.out) | exact HB.out)))⟩; clear hw; clear HO_7; clear HO_8; clear HO171; clear BK173; clear HB; have HO_7 := n0_; have HO_8 := n1_; have HO171 := n2_; have BK173 := n3_; have HB := n4_; clear n0_ n1_ n2_ n3_ n4_; have hcz50_0 : w49.cell? ⟨gb173, 0, none⟩ = some (.int .i64 t161) := (blk_cell BK173.out 0).trans rfl; have hcz50_1 : w49.cell? ⟨gb173, 1, none⟩ = some (.int .i64 t162) := (blk_cell BK173.out 1).trans rfl; have hcz50_2 : w49.cell? ⟨gb173, 2, none⟩ = some (.int .i64 t163) := (blk_cell BK173.out 2).trans rfl; have hcz50_3 : w49.cell? ⟨gb173, 3, none⟩ = some (.int .i64 t164) := (blk_cell BK173.out 3).trans rfl; have hcz50_4 : w49.cell? ⟨gb173, 4, none⟩ = some (.int .i64 t165) := (blk_cell BK173.out 4).trans rfl; have hcz50_5 : w49.cell? ⟨gb173, 5, none⟩ = some (.int .i64 t166) := (blk_cell BK173.out 5).trans rfl; have hcz50_6 : w49.cell? ⟨gb173, 6, none⟩ = some (.int .i64 t167) := (blk_cell BK173.out 6).trans rfl; have hcz50_7 : w49.cell? ⟨gb173, 7, none⟩ = some (.int .i64 t168) := (blk_cell BK173.out 7).trans rfl; have hfz50_0 := blk_frozen BK173.out 0; have hfz50_1 := blk_frozen BK173.out 1; have hfz50_2 := blk_frozen BK173.out 2; have hfz50_3 := blk_frozen BK173.out 3; have hfz50_4 := blk_frozen BK173.out 4; have hfz50_5 := blk_frozen BK173.out 5; have hfz50_6 := blk_frozen BK173.out 6; have hfz50_7 := blk_frozen BK173.out 7; have p39 : 0 ≤ ((rd l1 x10_4) : Int) := of_decide_eq_true (by first | (with_reducible assumption) | assumption); have q39 : ((rd l1 x10_4) : Int) < ((x8_4.length : Int) : Int) := of_decide_eq_true (by first | (with_reducible assumption) | assumption); obtain ⟨ce39, hcl39, hM39, hcc39, hfr39⟩ := Kd.R_elem HO_8.out z26 ((rd l1 x10_4) : Int) p39 q39; obtain rfl := k26_openM hM39; have hx39_0 : w49.cell? ⟨go36, ((rd l1 x10_4) : Int).toNat * 8, none⟩ = some (.int .i64 ((rd_T26 y159 (rd l1 x10_4)).f0)) := hcc39 0 _ rfl; have hx39_1 : w49.cell? ⟨go36, ((rd l1 x10_4) : Int).toNat * 8 + 1, none⟩ = some (.int .i64 ((rd_T26 y159 (rd l1 x10_4)).f1)) := hcc39 1 _ rfl; have hx39_2 : w49.cell? ⟨go36, ((rd l1 x10_4) : Int).toNat * 8 + 2, none⟩ = some (.int .i64 ((rd_T26 y159 (rd l1 x10_4)).f2)) := hcc39 2 _ rfl; have hx39_3 : w49.cell? ⟨go36, ((rd l1 x10_4) : Int).toNat * 8 + 3, none⟩ = some (.int .i64 ((rd_T26 y159 (rd l1 x10_4)).f3)) := hcc39 3 _ rfl; have hx39_4 : w49.cell? ⟨go36, ((rd l1 x10_4) : Int).toNat * 8 + 4, none⟩ = some (.int .i64 ((rd_T26 y159 (rd l1 x10_4)).f4)) := hcc39 4 _ rfl; have hx39_5 : w49.cell? ⟨go36, ((rd l1 x10_4) : Int).toNat * 8 + 5, none⟩ = some (.int .i64 ((rd_T26 y159 (rd l1 x10_4)).f5)) := hcc39 5 _ rfl; have hx39_6 : w49.cell? ⟨go36, ((rd l1 x10_4) : Int).toNat * 8 + 6, none⟩ = some (.int .i64 ((rd_T26 y159 (rd l1 x10_4)).f6)) := hcc39 6 _ rfl; have hx39_7 : w49.cell? ⟨go36, ((rd l1 x10_4) : Int).toNat * 8 + 7, none⟩ = some (.int .i64 ((rd_T26 y159 (rd l1 x10_4)).f7)) := hcc39 7 _ rfl; have hf39_0 : w49.frozen? ⟨go36, ((rd l1 x10_4) : Int).toNat * 8, none⟩ = false := hfr39 0; have hf39_1 : w49.frozen? ⟨go36, ((rd l1 x10_4) : Int).toNat * 8 + 1, none⟩ = false := hfr39 1; have hf39_2 : w49.frozen? ⟨go36, ((rd l1 x10_4) : Int).toNat * 8 + 2, none⟩ = false := hfr39 2; have hf39_3 : w49.frozen? ⟨go36, ((rd l1 x10_4) : Int).toNat * 8 + 3, none⟩ = false := hfr39 3; have hf39_4 : w49.frozen? ⟨go36, ((rd l1 x10_4) : Int).toNat * 8 + 4, none⟩ = false := hfr39 4; have hf39_5 : w49.frozen? ⟨go36, ((rd l1 x10_4) : Int).toNat * 8 + 5, none⟩ = false := hfr39 5; have hf39_6 : w49.frozen? ⟨go36, ((rd l1 x10_4) : Int).toNat * 8 + 6, none⟩ = false := hfr39 6; have hf39_7 : w49.frozen? ⟨go36, ((rd l1 x10_4) : Int).toNat * 8 + 7, none⟩ = false := hfr39 7; clear hcl39 hcc39 hfr39 hM39; replace p39 := eq_true p39; replace q39 := eq_true q39; have HX51 := Aside0.mk (show Kd.R k26 26 w49 w.heap.size (fun k_ => k_ ≠ gb173) (.slice (some ⟨go36, 0, none⟩) x8_4.length co40) y159 from (by (with_reducible repeat (first | apply Kd.R_alloc | apply Kd.R_drewN | apply Kd.R_drew)); exact HO_8.out)); obtain ⟨ce51, hcl51, hM51, hcc51, hfr51⟩ := Kd.R_elem HX51.out z26 ((rd l1 x10_4) : Int) (of_decide_eq_true (by first | (with_reducible assumption) | assumption)) (by have h_ : ((rd l1 x10_4) : Int) < ((x8_4.length : Int) : Int) := of_decide_eq_true (by first | (with_reducible assumption) | assumption); first | exact h_ | (have e_ := (Kd.R_reads' HO_8.out).1; omega) | simpa using h_); obtain rfl := k26_openM hM51; have HP51 := Kd.R_seg HX51.out ((rd l1 x10_4) : Int) (of_decide_eq_true (by first | (with_reducible assumption) | assumption)) (by have h_ : ((rd l1 x10_4) : Int) < ((x8_4.length : Int) : Int) := of_decide_eq_true (by first | (with_reducible assumption) | assumption); first | exact h_ | (have e_ := (Kd.R_reads' HO_8.out).1; omega) | simpa using h_) (seg := [.int .i64 t161, .int .i64 t162, .int .i64 t163, .int .i64 t164, .int .i64 t165, .int .i64 t166, .int .i64 t167, .int .i64 t168]) (j := 0) hcl51 hcc51 (show 8 ≤ 8 from by decide) (x' := (⟨t161, t162, t163, t164, t165, t166, t167, t168⟩ : S26)) (k26_mkM _ _ _ (⟨t161, t162, t163, t164, t165, t166, t167, t168⟩ : S26) ) (fun _ hk => hk); have hx51_0 := hcc51 0 _ rfl; (try simp only [show (k26).sz = 8 from rfl, Nat.mul_one, Nat.add_zero] at hx51_0); have hf51_0 := hfr51 0; (try simp only [show (k26).sz = 8 from rfl, Nat.mul_one, Nat.add_zero] at hf51_0); have hx51_1 := hcc51 1 _ rfl; (try simp only [show (k26).sz = 8 from rfl, Nat.mul_one, Nat.add_zero] at hx51_1); have hf51_1 := hfr51 1; (try simp only [show (k26).sz = 8 from rfl, Nat.mul_one, Nat.add_zero] at hf51_1); have hx51_2 := hcc51 2 _ rfl; (try simp only [show (k26).sz = 8 from rfl, Nat.mul_one, Nat.add_zero] at hx51_2); have hf51_2 := hfr51 2; (try simp only [show (k26).sz = 8 from rfl, Nat.mul_one, Nat.add_zero] at hf51_2); have hx51_3 := hcc51 3 _ rfl; (try simp only [show (k26).sz = 8 from rfl, Nat.mul_one, Nat.add_zero] at hx51_3); have hf51_3 := hfr51 3; (try simp only [show (k26).sz = 8 from rfl, Nat.mul_one, Nat.add_zero] at hf51_3); have hx51_4 := hcc51 4 _ rfl; (try simp only [show (k26).sz = 8 from rfl, Nat.mul_one, Nat.add_zero] at hx51_4); have hf51_4 := hfr51 4; (try simp only [show (k26).sz = 8 from rfl, Nat.mul_one, Nat.add_zero] at hf51_4); have hx51_5 := hcc51 5 _ rfl; (try simp only [show (k26).sz = 8 from rfl, Nat.mul_one, Nat.add_zero] at hx51_5); have hf51_5 := hfr51 5; (try simp only [show (k26).sz = 8 from rfl, Nat.mul_one, Nat.add_zero] at hf51_5); have hx51_6 := hcc51 6 _ rfl; (try simp only [show (k26).sz = 8 from rfl, Nat.mul_one, Nat.add_zero] at hx51_6); have hf51_6 := hfr51 6; (try simp only [show (k26).sz = 8 from rfl, Nat.mul_one, Nat.add_zero] at hf51_6); have hx51_7 := hcc51 7 _ rfl; (try simp only [show (k26).sz = 8 from rfl, Nat.mul_one, Nat.add_zero] at hx51_7); have hf51_7 := hfr51 7; (try simp only [show (k26).sz = 8 from rfl, Nat.mul_one, Nat.add_zero] at hf51_7); clear hcl51 hcc51 hfr51 hM51) | ((with_reducible refine gate_store (t := 26) (p := 98) rfl ?_); refine store_event (t := 26) (p := 98) (v := ?vo_w52) (w1 := ((((((((w49.setCell ⟨go36, ((rd l1 x10_4) : Int).toNat * 8, none⟩ (.int .i64 t161)).setCell ⟨go36, ((rd l1 x10_4) : Int).toNat * 8 + 1, none⟩ (.int .i64 t162)).setCell ⟨go36, ((rd l1 x10_4) : Int).toNat * 8 + 2, none⟩ (.int .i64 t163)).setCell ⟨go36, ((rd l1 x10_4) : Int).toNat * 8 + 3, none⟩ (.int .i64 t164)).setCell ⟨go36, ((rd l1 x10_4) : Int).toNat * 8 + 4, none⟩ (.int .i64 t165)).setCell ⟨go36, ((rd l1 x10_4) : Int).toNat * 8 + 5, none⟩ (.int .i64 t166)).setCell ⟨go36, ((rd l1 x10_4) : Int).toNat * 8 + 6, none⟩ (.int .i64 t167)).setCell ⟨go36, ((rd l1 x10_4) : Int).toNat * 8 + 7, none⟩ (.int .i64 t168))) ?hg ?ho ?hn ?hr ?_; (case ho => rfl); (case hg => rfl); (case hn => rfl); (case hr => first | (go_simp; done) | (go_simp; rfl)); intro w52 hw; have hg : w49.grownBy w52 (some go36) := (by rw [hw]; exact HP51.2); have hp_ : Kd.R k26 26 w52 w.heap.size (fun k_ => k_ ≠ gb173) (.slice (some ⟨go36, 0, none⟩) x8_4.length co40) y174 := (by rw [hw, Ny174.out]; exact HP51.1); clear HP51; have n0_ := Aside0.mk (Kd.R_over' (v := (.slice (some ⟨go36, 0, none⟩) x8_4.length co40)) (by (with_reducible repeat (first | apply Kd.R_alloc | apply Kd.R_drewN | apply Kd.R_drew)); exact HO_7.out) (Kd.R_typed HO_8.out) (by decide) hg); have n1_ := Aside0.mk (hp_); have n2_ := Aside0.mk (Kd.R_over' (v := (.slice (some ⟨go36, 0, none⟩) x8_4.length co40)) (by (with_reducible repeat (first | apply Kd.R_alloc | apply Kd.R_drewN | apply Kd.R_drew)); exact HO171.out) (Kd.R_typed HO_8.out) (by decide) hg); have n3_ := Aside0.mk (blk_grown (g := gb173) (o := .cells #[.int .i64 t161, .int .i64 t162, .int .i64 t163, .int .i64 t164, .int .i64 t165, .int .i64 t166, .int .i64 t167, .int .i64 t168] 26 (0, 0)) (by (with_reducible repeat (first | refine blk_drewN ?_ _ | refine blk_drew ?_ | refine blk_alloc ?_ _)); exact BK173.out) hg (Kd.R_away HO_8.out (fun _ hk => hk))); have n4_ := Aside0.mk ((by rw [hw]; exact below_set (below_set (below_set (below_set (below_set (below_set (below_set (below_set (HB.out) GB36.out) GB36.out) GB36.out) GB36.out) GB36.out) GB36.out) GB36.out) GB36.out : Below w.heap.size w w52)); clear HO_7; clear HO_8; clear HO171; clear BK173; clear HB; have HO_7 := n0_; have HO_8 := n1_; have HO171 := n2_; have BK173 := n3_; have HB := n4_; clear n0_ n1_ n2_ n3_ n4_; clear hg hw hp_))
                                      go_roundg k4
                                      case measure => have := HJ2.out; have := HJ9.out; have := HK3.out; have := HK4.out; omega
                                      case rel => exact ⟨(t169), (y174), (wrap64 (x10_4 + 1)), (by first | rfl | (simp; done) | (simp [*]; done)), H', ⟨by have := HJ2.out; have := HJ9.out; have := HK3.out; have := HK4.out; omega⟩, ⟨by (with_reducible repeat (first | apply Kd.R_alloc | apply Kd.R_drewN | apply Kd.R_drew)); exact Kd.R_mono HO171.out (fun _ hk => trivial)⟩, ⟨by (with_reducible repeat (first | apply Kd.R_alloc | apply Kd.R_drewN | apply Kd.R_drew)); exact Kd.R_mono HO_8.out (fun _ hk => trivial)⟩, ⟨by repeat (first | (with_reducible first | exact HB.out | apply below_alloc | apply pw_below_drewN | apply below_drew1 | refine below_set ?_ GE173.out) | exact HB.out)⟩⟩
                                    · rw [if_neg c35] at H
                                      exact absurd H (by simp)
                                  · rw [if_neg c33] at H
                                    have c33b0 : (((rd_T26 x8_4 (rd l1 x10_4)).f2) == 6) = false := beq_eq_false_iff_ne.mpr c33
                                    have c33b1 : (((rd_T26 x8_4 (rd l1 x10_4)).f2) != 6) = true := bne_iff_ne.mpr c33
                                    replace H := Option.bind_eq_some_iff.mp H
                                    obtain ⟨⟨t176, t177, t178, t179, t180, t181, t182, t183, t184, t187⟩, A530, H⟩ := H
                                    replace H : (spec_RunPaxos.l1 k4 l0 l1 t184 (x8_4.set ((rd l1 x10_4) : Int).toNat (⟨t176, t177, t178, t179, t180, t181, t182, t183⟩ : S26)) (wrap64 (x10_4 + 1))) = some (r1, r2, r3) := H
                                    have A53 := Aside0.mk A530
                                    clear A530
                                    obtain ⟨y189, hy189⟩ : ∃ y_ : List (S26), y_ = (x8_4.set ((rd l1 x10_4) : Int).toNat (⟨t176, t177, t178, t179, t180, t181, t182, t183⟩ : S26)) := ⟨_, rfl⟩
                                    replace H : (spec_RunPaxos.l1 k4 l0 l1 t184 y189 (wrap64 (x10_4 + 1))) = some (r1, r2, r3) := by first | (rw [hy189]; with_reducible exact H) | (have H2_ := (Option.bind_some _ _).symm.trans H; rw [hy189]; with_reducible exact H2_) | (have H2_ := (Option.bind_some _ _).symm.trans H; with_reducible exact H2_) | with_reducible exact H | (rw [hy189]; exact H) | exact H
                                    have Ny189 := Aside0.mk hy189
                                    clear hy189
                                    have H' := Aside0.mk H
                                    clear H
                                    have p148 : 0 ≤ (x10_4 : Int) := of_decide_eq_true (by first | (with_reducible assumption) | assumption)
                                    have q148 : x10_4 < (l1.length : Int) := of_decide_eq_true (by first | (with_reducible assumption) | assumption)
                                    obtain ⟨ad148, e148, hx148_0⟩ := Kd.at_int HR1.out x10_4 p148 q148
                                    cases e148
                                    replace hx148_0 := (HB.out.cell (World.block_lt_of_cell? w _ hx148_0)).trans hx148_0
                                    replace p148 := eq_true p148
                                    replace q148 := eq_true q148
                                    go_wp2_with (first | ((with_reducible refine gate_callee (f := 47) rfl ?_); refine goesL_ (some 63) rfl rfl Try.func47 (by kernel_rfl) rfl #[.int .i64 (rd l1 x10_4)] rfl (by (try simp only [List.map_toArray, List.map_cons, List.map_nil]); first | done | rfl | (simp only [List.length_drop, List.length_take]; rfl)) ?_; (with_reducible refine (spec_l04Host.calls (rd l1 x10_4) true _ A29.out).mono ?_); rintro e w' ⟨rfl, ⟨nd, rfl⟩⟩; refine ⟨_, rfl, ?_⟩; (try (rw [drewN_self wr]; generalize hq_ : World.drewN wr _ = wr; have n0_ : Aside0 (Kd.R k53 53 wr w.heap.size (fun _ => True) u7 x7_4) := ⟨by rw [← hq_]; exact (by (with_reducible repeat (first | apply Kd.R_alloc | apply Kd.R_drewN | apply Kd.R_drew)); exact HO_7.out)⟩; have n1_ : Aside0 (Kd.R k26 26 wr w.heap.size (fun _ => True) u8 x8_4) := ⟨by rw [← hq_]; exact (by (with_reducible repeat (first | apply Kd.R_alloc | apply Kd.R_drewN | apply Kd.R_drew)); exact HO_8.out)⟩; have n2_ : Aside0 (Below w.heap.size w wr) := ⟨by rw [← hq_]; exact (by repeat (first | (with_reducible first | exact HB.out | apply below_alloc | apply pw_below_drewN | apply below_drew1) | exact HB.out))⟩; clear HO_7 HO_8 HB hq_; have HO_7 := n0_; have HO_8 := n1_; have HB := n2_; clear n0_ n1_ n2_)); obtain ⟨Ao55, co55, eo55⟩ := Kd.R_slice HO_8.out; subst eo55; have p156 : 0 ≤ ((rd l1 x10_4) : Int) := of_decide_eq_true (by first | (with_reducible assumption) | assumption); have q156 : (rd l1 x10_4) < (x8_4.length : Int) := of_decide_eq_true (by first | (with_reducible assumption) | assumption); obtain ⟨ad156, e156, hx156_0, hx156_1, hx156_2, hx156_3, hx156_4, hx156_5, hx156_6, hx156_7⟩ := at_T26 (Kd.R_reads' HO_8.out).2.2 (rd l1 x10_4) p156 q156; cases e156; replace p156 := eq_true p156; replace q156 := eq_true q156; have p175 : 0 ≤ ((rd l1 x10_4) : Int) := of_decide_eq_true (by first | (with_reducible assumption) | assumption); have q175 : (rd l1 x10_4) < (x8_4.length : Int) := of_decide_eq_true (by first | (with_reducible assumption) | assumption); obtain ⟨ad175, e175, hx175_0, hx175_1, hx175_2, hx175_3, hx175_4, hx175_5, hx175_6, hx175_7⟩ := at_T26 (Kd.R_reads' HO_8.out).2.2 (rd l1 x10_4) p175 q175; obtain rfl : ad156 = ad175 := (by injection e175); replace p175 := eq_true p175; replace q175 := eq_true q175; obtain ⟨Ao56, co56, eo56⟩ := Kd.R_slice HO_7.out; subst eo56) | ((with_reducible refine gate_callee (f := 37) rfl ?_); refine goesL_ (some 91) rfl rfl Try.func37 (by kernel_rfl) rfl #[.agg #[.int .i64 ((rd_T26 x8_4 (rd l1 x10_4)).f0), .int .i64 ((rd_T26 x8_4 (rd l1 x10_4)).f1), .int .i64 ((rd_T26 x8_4 (rd l1 x10_4)).f2), .int .i64 ((rd_T26 x8_4 (rd l1 x10_4)).f3), .int .i64 ((rd_T26 x8_4 (rd l1 x10_4)).f4), .int .i64 ((rd_T26 x8_4 (rd l1 x10_4)).f5), .int .i64 ((rd_T26 x8_4 (rd l1 x10_4)).f6), .int .i64 ((rd_T26 x8_4 (rd l1 x10_4)).f7)], .slice Ao56 x7_4.length co56] rfl (by (try simp only [List.map_toArray, List.map_cons, List.map_nil]); first | done | rfl | (simp only [List.length_drop, List.length_take]; rfl)) ?_; (with_reducible refine (spec_l05Step.calls ((rd_T26 x8_4 (rd l1 x10_4)).f0) ((rd_T26 x8_4 (rd l1 x10_4)).f1) ((rd_T26 x8_4 (rd l1 x10_4)).f2) ((rd_T26 x8_4 (rd l1 x10_4)).f3) ((rd_T26 x8_4 (rd l1 x10_4)).f4) ((rd_T26 x8_4 (rd l1 x10_4)).f5) ((rd_T26 x8_4 (rd l1 x10_4)).f6) ((rd_T26 x8_4 (rd l1 x10_4)).f7) _ _ x7_4 t176 t177 t178 t179 t180 t181 t182 t183 t184 t187 _ ?side1 ?side2 A53.out).mono ?_); (case side1 => repeat (first | exact (Kd.R_reads' HO_7.out).2.2 | (with_reducible refine Kd.C_alloc ?_ _) | (with_reducible refine Kd.C_drewN ?_ _) | (with_reducible refine Kd.C_drew ?_))); (case side2 => exact (Kd.R_reads' HO_7.out).2.1); rintro e w57 ⟨v185, rfl, ho0, hb⟩; refine ⟨_, rfl, ?_⟩; have n0_ := Aside0.mk (Kd.R_elder' (by (with_reducible repeat (first | apply Kd.R_alloc | apply Kd.R_drewN | apply Kd.R_drew)); exact HO_7.out) (Kd.R_base ho0) hb); have n1_ := Aside0.mk (Kd.R_below (by (with_reducible repeat (first | apply Kd.R_alloc | apply Kd.R_drewN | apply Kd.R_drew)); exact HO_8.out) hb); have n2_ := Aside0.mk (Kd.R_lower (Kd.R_new' ho0 (Kd.R_lt (by (with_reducible repeat (first | apply Kd.R_alloc | apply Kd.R_drewN | apply Kd.R_drew)); exact HO_7.out))) (below_size (by repeat (first | (with_reducible first | exact HB.out | apply below_alloc | apply pw_below_drewN | apply below_drew1) | exact HB.out)))); have n3_ := Aside0.mk (below_step (by repeat (first | (with_reducible first | exact HB.out | apply below_alloc | apply pw_below_drewN | apply below_drew1) | exact HB.out)) hb); clear HO_7; clear HO_8; clear HB; have HO_7 := n0_; have HO_8 := n1_; have HO186 := n2_; have HB := n3_; clear n0_ n1_ n2_ n3_; (try clear hb); (try clear hb2); (try clear hk); (try clear hi); (try clear ho0)) | ((with_reducible refine gate_dst (N := 12) rfl ?_); refine box_event ?hg (N := 12) ?hd (cs := #[.int .i64 0, .int .i64 0, .int .i64 0, .int .i64 0, .int .i64 0, .int .i64 0, .int .i64 0, .int .i64 0]) (t := 26) ?hr ?_; (case hd => rfl); (case hg => rfl); (case hr => first | (go_simp; done) | (go_simp; rfl)); intro gb188 hg w58 hbox hb; have n0_ := Aside0.mk (Kd.R_below (by (with_reducible repeat (first | apply Kd.R_alloc | apply Kd.R_drewN | apply Kd.R_drew)); exact HO_7.out) hb); have n1_ := Aside0.mk (Kd.R_below (Kd.R_elderB (by (with_reducible repeat (first | apply Kd.R_alloc | apply Kd.R_drewN | apply Kd.R_drew)); exact HO_8.out) gb188 (Nat.le_of_eq hg.symm)) hb); have n2_ := Aside0.mk (Kd.R_below (by (with_reducible repeat (first | apply Kd.R_alloc | apply Kd.R_drewN | apply Kd.R_drew)); exact HO186.out) hb); have n3_ := Aside0.mk (below_step (by repeat (first | (with_reducible first | exact HB.out | apply below_alloc | apply pw_below_drewN | apply below_drew1) | exact HB.out)) hb); have n4_ := Aside0.mk (hbox); have n5_ := Aside0.mk ((by rw [hg]; exact (below_size (by repeat (first | (with_reducible first | exact HB.out | apply below_alloc | apply pw_below_drewN | apply below_drew1) | exact HB.out))) : w.heap.size ≤ gb188)); have n6_ := Aside0.mk ((by rw [hg]; exact (below_size (by repeat (first | (with_reducible first | exact HB.out | apply below_alloc | apply pw_below_drewN | apply below_drew1) | exact HB.out))) : w.heap.size ≤ gb188)); clear HO_7; clear HO_8; clear HO186; clear HB; have HO_7 := n0_; have HO_8 := n1_; have HO186 := n2_; have HB := n3_; have BK188 := n4_; have GW188 := n5_; have GE188 := n6_; clear n0_ n1_ n2_ n3_ n4_ n5_ n6_; clear hb hbox hg; have hcz59_0 : w58.cell? ⟨gb188, 0, none⟩ = some (.int .i64 0) := (blk_cell BK188.out 0).trans rfl; have hcz59_1 : w58.cell? ⟨gb188, 1, none⟩ = some (.int .i64 0) := (blk_cell BK188.out 1).trans rfl; have hcz59_2 : w58.cell? ⟨gb188, 2, none⟩ = some (.int .i64 0) := (blk_cell BK188.out 2).trans rfl; have hcz59_3 : w58.cell? ⟨gb188, 3, none⟩ = some (.int .i64 0) := (blk_cell BK188.out 3).trans rfl; have hcz59_4 : w58.cell? ⟨gb188, 4, none⟩ = some (.int .i64 0) := (blk_cell BK188.out 4).trans rfl; have hcz59_5 : w58.cell? ⟨gb188, 5, none⟩ = some (.int .i64 0) := (blk_cell BK188.out 5).trans rfl; have hcz59_6 : w58.cell? ⟨gb188, 6, none⟩ = some (.int .i64 0) := (blk_cell BK188.out 6).trans rfl; have hcz59_7 : w58.cell? ⟨gb188, 7, none⟩ = some (.int .i64 0) := (blk_cell BK188.out 7).trans rfl; have hfz59_0 := blk_frozen BK188.out 0; have hfz59_1 := blk_frozen BK188.out 1; have hfz59_2 := blk_frozen BK188.out 2; have hfz59_3 := blk_frozen BK188.out 3; have hfz59_4 := blk_frozen BK188.out 4; have hfz59_5 := blk_frozen BK188.out 5; have hfz59_6 := blk_frozen BK188.out 6; have hfz59_7 := blk_frozen BK188.out 7) | ((with_reducible refine gate_store (t := 26) (p := 12) rfl ?_); refine store_event (t := 26) (p := 12) (v := ?vo_w60) (w1 := ((((((((w58.setCell ⟨gb188, 0, none⟩ (.int .i64 t176)).setCell ⟨gb188, 1, none⟩ (.int .i64 t177)).setCell ⟨gb188, 2, none⟩ (.int .i64 t178)).setCell ⟨gb188, 3, none⟩ (.int .i64 t179)).setCell ⟨gb188, 4, none⟩ (.int .i64 t180)).setCell ⟨gb188, 5, none⟩ (.int .i64 t181)).setCell ⟨gb188, 6, none⟩ (.int .i64 t182)).setCell ⟨gb188, 7, none⟩ (.int .i64 t183))) ?hg ?ho ?hn ?hr ?_; (case ho => rfl); (case hg => rfl); (case hn => rfl); (case hr => first | (go_simp; done) | (go_simp; rfl)); intro w60 hw; have n0_ : Aside0 (Kd.R k53 53 w60 w.heap.size (fun k_ => some k_ ≠ (v185 : Value).ownBlock) (.slice Ao56 x7_4.length co56) x7_4) := ⟨(by rw [hw]; exact (by (with_reducible repeat (first | apply Kd.R_alloc | apply Kd.R_drewN | apply Kd.R_drew)); exact Kd.R_mono (Kd.R_far (p := ⟨gb188, 7, none⟩) (Kd.R_far (p := ⟨gb188, 6, none⟩) (Kd.R_far (p := ⟨gb188, 5, none⟩) (Kd.R_far (p := ⟨gb188, 4, none⟩) (Kd.R_far (p := ⟨gb188, 3, none⟩) (Kd.R_far (p := ⟨gb188, 2, none⟩) (Kd.R_far (p := ⟨gb188, 1, none⟩) (Kd.R_far (p := ⟨gb188, 0, none⟩) (Kd.R_types HO_7.out BK188.out (by decide)) (fun _ hk => hk.2) (.int .i64 t176)) (fun _ hk => hk.2) (.int .i64 t177)) (fun _ hk => hk.2) (.int .i64 t178)) (fun _ hk => hk.2) (.int .i64 t179)) (fun _ hk => hk.2) (.int .i64 t180)) (fun _ hk => hk.2) (.int .i64 t181)) (fun _ hk => hk.2) (.int .i64 t182)) (fun _ hk => hk.2) (.int .i64 t183)) (fun _ hk => hk.1.2)))⟩; have n1_ : Aside0 (Kd.R k26 26 w60 w.heap.size (fun k_ => k_ ≠ gb188) (.slice (some ad156) x8_4.length co55) x8_4) := ⟨(by rw [hw]; exact (by (with_reducible repeat (first | apply Kd.R_alloc | apply Kd.R_drewN | apply Kd.R_drew)); exact Kd.R_mono (Kd.R_far (p := ⟨gb188, 7, none⟩) (Kd.R_far (p := ⟨gb188, 6, none⟩) (Kd.R_far (p := ⟨gb188, 5, none⟩) (Kd.R_far (p := ⟨gb188, 4, none⟩) (Kd.R_far (p := ⟨gb188, 3, none⟩) (Kd.R_far (p := ⟨gb188, 2, none⟩) (Kd.R_far (p := ⟨gb188, 1, none⟩) (Kd.R_far (p := ⟨gb188, 0, none⟩) (Kd.R_mono HO_8.out (fun k_ hk => (⟨hk, hk.2⟩ : _ ∧ k_ ≠ gb188))) (fun _ hk => hk.2) (.int .i64 t176)) (fun _ hk => hk.2) (.int .i64 t177)) (fun _ hk => hk.2) (.int .i64 t178)) (fun _ hk => hk.2) (.int .i64 t179)) (fun _ hk => hk.2) (.int .i64 t180)) (fun _ hk => hk.2) (.int .i64 t181)) (fun _ hk => hk.2) (.int .i64 t182)) (fun _ hk => hk.2) (.int .i64 t183)) (fun _ hk => hk.1.2)))⟩; have n2_ : Aside0 (Kd.R k53 53 w60 w.heap.size (fun k_ => some k_ ≠ (.slice Ao56 x7_4.length co56 : Value).ownBlock) v185 t184) := ⟨(by rw [hw]; exact (by (with_reducible repeat (first | apply Kd.R_alloc | apply Kd.R_drewN | apply Kd.R_drew)); exact Kd.R_mono (Kd.R_far (p := ⟨gb188, 7, none⟩) (Kd.R_far (p := ⟨gb188, 6, none⟩) (Kd.R_far (p := ⟨gb188, 5, none⟩) (Kd.R_far (p := ⟨gb188, 4, none⟩) (Kd.R_far (p := ⟨gb188, 3, none⟩) (Kd.R_far (p := ⟨gb188, 2, none⟩) (Kd.R_far (p := ⟨gb188, 1, none⟩) (Kd.R_far (p := ⟨gb188, 0, none⟩) (Kd.R_types HO186.out BK188.out (by decide)) (fun _ hk => hk.2) (.int .i64 t176)) (fun _ hk => hk.2) (.int .i64 t177)) (fun _ hk => hk.2) (.int .i64 t178)) (fun _ hk => hk.2) (.int .i64 t179)) (fun _ hk => hk.2) (.int .i64 t180)) (fun _ hk => hk.2) (.int .i64 t181)) (fun _ hk => hk.2) (.int .i64 t182)) (fun _ hk => hk.2) (.int .i64 t183)) (fun _ hk => hk.1.2)))⟩; have n3_ : Aside0 (w60.heap[gb188]? = some (.cells #[.int .i64 t176, .int .i64 t177, .int .i64 t178, .int .i64 t179, .int .i64 t180, .int .i64 t181, .int .i64 t182, .int .i64 t183] 26 (0, 0))) := ⟨(by rw [hw]; exact (by (with_reducible repeat (first | refine blk_drewN ?_ _ | refine blk_drew ?_ | refine blk_alloc ?_ _)); refine blk_put (cs := #[.int .i64 t176, .int .i64 t177, .int .i64 t178, .int .i64 t179, .int .i64 t180, .int .i64 t181, .int .i64 t182, .int .i64 0]) ?_ 7 _ rfl; (with_reducible repeat (first | refine blk_drewN ?_ _ | refine blk_drew ?_ | refine blk_alloc ?_ _)); refine blk_put (cs := #[.int .i64 t176, .int .i64 t177, .int .i64 t178, .int .i64 t179, .int .i64 t180, .int .i64 t181, .int .i64 0, .int .i64 0]) ?_ 6 _ rfl; (with_reducible repeat (first | refine blk_drewN ?_ _ | refine blk_drew ?_ | refine blk_alloc ?_ _)); refine blk_put (cs := #[.int .i64 t176, .int .i64 t177, .int .i64 t178, .int .i64 t179, .int .i64 t180, .int .i64 0, .int .i64 0, .int .i64 0]) ?_ 5 _ rfl; (with_reducible repeat (first | refine blk_drewN ?_ _ | refine blk_drew ?_ | refine blk_alloc ?_ _)); refine blk_put (cs := #[.int .i64 t176, .int .i64 t177, .int .i64 t178, .int .i64 t179, .int .i64 0, .int .i64 0, .int .i64 0, .int .i64 0]) ?_ 4 _ rfl; (with_reducible repeat (first | refine blk_drewN ?_ _ | refine blk_drew ?_ | refine blk_alloc ?_ _)); refine blk_put (cs := #[.int .i64 t176, .int .i64 t177, .int .i64 t178, .int .i64 0, .int .i64 0, .int .i64 0, .int .i64 0, .int .i64 0]) ?_ 3 _ rfl; (with_reducible repeat (first | refine blk_drewN ?_ _ | refine blk_drew ?_ | refine blk_alloc ?_ _)); refine blk_put (cs := #[.int .i64 t176, .int .i64 t177, .int .i64 0, .int .i64 0, .int .i64 0, .int .i64 0, .int .i64 0, .int .i64 0]) ?_ 2 _ rfl; (with_reducible repeat (first | refine blk_drewN ?_ _ | refine blk_drew ?_ | refine blk_alloc ?_ _)); refine blk_put (cs := #[.int .i64 t176, .int .i64 0, .int .i64 0, .int .i64 0, .int .i64 0, .int .i64 0, .int .i64 0, .int .i64 0]) ?_ 1 _ rfl; (with_reducible repeat (first | refine blk_drewN ?_ _ | refine blk_drew ?_ | refine blk_alloc ?_ _)); refine blk_put (cs := #[.int .i64 0, .int .i64 0, .int .i64 0, .int .i64 0, .int .i64 0, .int .i64 0, .int .i64 0, .int .i64 0]) ?_ 0 _ rfl; (with_reducible repeat (first | refine blk_drewN ?_ _ | refine blk_drew ?_ | refine blk_alloc ?_ _)); exact BK188.out))⟩; have n4_ : Aside0 (Below w.heap.size w w60) := ⟨(by rw [hw]; exact (by repeat (first | (with_reducible first | exact HB.out | apply below_alloc | apply pw_below_drewN | apply below_drew1 | refine below_set ?_ GE188.out) | exact HB.out)))⟩; clear hw; clear HO_7; clear HO_8; clear HO186; clear BK188; clear HB; have HO_7 := n0_; have HO_8 := n1_; have HO186 := n2_; have BK188 := n3_; have HB := n4_; clear n0_ n1_ n2_ n3_ n4_; have hcz61_0 : w60.cell? ⟨gb188, 0, none⟩ = some (.int .i64 t176) := (blk_cell BK188.out 0).trans rfl; have hcz61_1 : w60.cell? ⟨gb188, 1, none⟩ = some (.int .i64 t177) := (blk_cell BK188.out 1).trans rfl; have hcz61_2 : w60.cell? ⟨gb188, 2, none⟩ = some (.int .i64 t178) := (blk_cell BK188.out 2).trans rfl; have hcz61_3 : w60.cell? ⟨gb188, 3, none⟩ = some (.int .i64 t179) := (blk_cell BK188.out 3).trans rfl; have hcz61_4 : w60.cell? ⟨gb188, 4, none⟩ = some (.int .i64 t180) := (blk_cell BK188.out 4).trans rfl; have hcz61_5 : w60.cell? ⟨gb188, 5, none⟩ = some (.int .i64 t181) := (blk_cell BK188.out 5).trans rfl; have hcz61_6 : w60.cell? ⟨gb188, 6, none⟩ = some (.int .i64 t182) := (blk_cell BK188.out 6).trans rfl; have hcz61_7 : w60.cell? ⟨gb188, 7, none⟩ = some (.int .i64 t183) := (blk_cell BK188.out 7).trans rfl; have hfz61_0 := blk_frozen BK188.out 0; have hfz61_1 := blk_frozen BK188.out 1; have hfz61_2 := blk_frozen BK188.out 2; have hfz61_3 := blk_frozen BK188.out 3; have hfz61_4 := blk_frozen BK188.out 4; have hfz61_5 := blk_frozen BK188.out 5; have hfz61_6 := blk_frozen BK188.out 6; have hfz61_7 := blk_frozen BK188.out 7; have p54 : 0 ≤ ((rd l1 x10_4) : Int) := of_decide_eq_true (by first | (with_reducible assumption) | assumption); have q54 : ((rd l1 x10_4) : Int) < ((x8_4.length : Int) : Int) := of_decide_eq_true (by first | (with_reducible assumption) | assumption); obtain ⟨go54, co54, eo54, gb54, gl54, cl54, HG54⟩ := Kd.R_form HO_8.out (by omega); (first | cases eo54 | (injection eo54 with ea_ en_ ec_; (first | subst ea_ | (injection ea_ with ea_; subst ea_)); subst ec_; clear en_)); have GB54 := Aside0.mk gb54; have GG54 := Aside0.mk HG54; clear gb54 gl54 HG54; (first | simp only [add_plain] at hx156_0 | skip); (first | simp only [add_plain] at hx156_1 | skip); (first | simp only [add_plain] at hx156_2 | skip); (first | simp only [add_plain] at hx156_3 | skip); (first | simp only [add_plain] at hx156_4 | skip); (first | simp only [add_plain] at hx156_5 | skip); (first | simp only [add_plain] at hx156_6 | skip); (first | simp only [add_plain] at hx156_7 | skip); (first | simp only [add_plain] at hx175_0 | skip); (first | simp only [add_plain] at hx175_1 | skip); (first | simp only [add_plain] at hx175_2 | skip); (first | simp only [add_plain] at hx175_3 | skip); (first | simp only [add_plain] at hx175_4 | skip); (first | simp only [add_plain] at hx175_5 | skip); (first | simp only [add_plain] at hx175_6 | skip); (first | simp only [add_plain] at hx175_7 | skip); obtain ⟨ce54, hcl54, hM54, hcc54, hfr54⟩ := Kd.R_elem HO_8.out z26 ((rd l1 x10_4) : Int) p54 q54; obtain rfl := k26_openM hM54; have hx54_0 : w60.cell? ⟨go54, ((rd l1 x10_4) : Int).toNat * 8, none⟩ = some (.int .i64 ((rd_T26 x8_4 (rd l1 x10_4)).f0)) := hcc54 0 _ rfl; have hx54_1 : w60.cell? ⟨go54, ((rd l1 x10_4) : Int).toNat * 8 + 1, none⟩ = some (.int .i64 ((rd_T26 x8_4 (rd l1 x10_4)).f1)) := hcc54 1 _ rfl; have hx54_2 : w60.cell? ⟨go54, ((rd l1 x10_4) : Int).toNat * 8 + 2, none⟩ = some (.int .i64 ((rd_T26 x8_4 (rd l1 x10_4)).f2)) := hcc54 2 _ rfl; have hx54_3 : w60.cell? ⟨go54, ((rd l1 x10_4) : Int).toNat * 8 + 3, none⟩ = some (.int .i64 ((rd_T26 x8_4 (rd l1 x10_4)).f3)) := hcc54 3 _ rfl; have hx54_4 : w60.cell? ⟨go54, ((rd l1 x10_4) : Int).toNat * 8 + 4, none⟩ = some (.int .i64 ((rd_T26 x8_4 (rd l1 x10_4)).f4)) := hcc54 4 _ rfl; have hx54_5 : w60.cell? ⟨go54, ((rd l1 x10_4) : Int).toNat * 8 + 5, none⟩ = some (.int .i64 ((rd_T26 x8_4 (rd l1 x10_4)).f5)) := hcc54 5 _ rfl; have hx54_6 : w60.cell? ⟨go54, ((rd l1 x10_4) : Int).toNat * 8 + 6, none⟩ = some (.int .i64 ((rd_T26 x8_4 (rd l1 x10_4)).f6)) := hcc54 6 _ rfl; have hx54_7 : w60.cell? ⟨go54, ((rd l1 x10_4) : Int).toNat * 8 + 7, none⟩ = some (.int .i64 ((rd_T26 x8_4 (rd l1 x10_4)).f7)) := hcc54 7 _ rfl; have hf54_0 : w60.frozen? ⟨go54, ((rd l1 x10_4) : Int).toNat * 8, none⟩ = false := hfr54 0; have hf54_1 : w60.frozen? ⟨go54, ((rd l1 x10_4) : Int).toNat * 8 + 1, none⟩ = false := hfr54 1; have hf54_2 : w60.frozen? ⟨go54, ((rd l1 x10_4) : Int).toNat * 8 + 2, none⟩ = false := hfr54 2; have hf54_3 : w60.frozen? ⟨go54, ((rd l1 x10_4) : Int).toNat * 8 + 3, none⟩ = false := hfr54 3; have hf54_4 : w60.frozen? ⟨go54, ((rd l1 x10_4) : Int).toNat * 8 + 4, none⟩ = false := hfr54 4; have hf54_5 : w60.frozen? ⟨go54, ((rd l1 x10_4) : Int).toNat * 8 + 5, none⟩ = false := hfr54 5; have hf54_6 : w60.frozen? ⟨go54, ((rd l1 x10_4) : Int).toNat * 8 + 6, none⟩ = false := hfr54 6; have hf54_7 : w60.frozen? ⟨go54, ((rd l1 x10_4) : Int).toNat * 8 + 7, none⟩ = false := hfr54 7; clear hcl54 hcc54 hfr54 hM54; replace p54 := eq_true p54; replace q54 := eq_true q54; have HX62 := Aside0.mk (show Kd.R k26 26 w60 w.heap.size (fun k_ => k_ ≠ gb188) (.slice (some ⟨go54, 0, none⟩) x8_4.length co55) x8_4 from (by (with_reducible repeat (first | apply Kd.R_alloc | apply Kd.R_drewN | apply Kd.R_drew)); exact HO_8.out)); obtain ⟨ce62, hcl62, hM62, hcc62, hfr62⟩ := Kd.R_elem HX62.out z26 ((rd l1 x10_4) : Int) (of_decide_eq_true (by first | (with_reducible assumption) | assumption)) (by have h_ : ((rd l1 x10_4) : Int) < ((x8_4.length : Int) : Int) := of_decide_eq_true (by first | (with_reducible assumption) | assumption); first | exact h_ | (have e_ := (Kd.R_reads' HO_8.out).1; omega) | simpa using h_); obtain rfl := k26_openM hM62; have HP62 := Kd.R_seg HX62.out ((rd l1 x10_4) : Int) (of_decide_eq_true (by first | (with_reducible assumption) | assumption)) (by have h_ : ((rd l1 x10_4) : Int) < ((x8_4.length : Int) : Int) := of_decide_eq_true (by first | (with_reducible assumption) | assumption); first | exact h_ | (have e_ := (Kd.R_reads' HO_8.out).1; omega) | simpa using h_) (seg := [.int .i64 t176, .int .i64 t177, .int .i64 t178, .int .i64 t179, .int .i64 t180, .int .i64 t181, .int .i64 t182, .int .i64 t183]) (j := 0) hcl62 hcc62 (show 8 ≤ 8 from by decide) (x' := (⟨t176, t177, t178, t179, t180, t181, t182, t183⟩ : S26)) (k26_mkM _ _ _ (⟨t176, t177, t178, t179, t180, t181, t182, t183⟩ : S26) ) (fun _ hk => hk); have hx62_0 := hcc62 0 _ rfl; (try simp only [show (k26).sz = 8 from rfl, Nat.mul_one, Nat.add_zero] at hx62_0); have hf62_0 := hfr62 0; (try simp only [show (k26).sz = 8 from rfl, Nat.mul_one, Nat.add_zero] at hf62_0); have hx62_1 := hcc62 1 _ rfl; (try simp only [show (k26).sz = 8 from rfl, Nat.mul_one, Nat.add_zero] at hx62_1); have hf62_1 := hfr62 1; (try simp only [show (k26).sz = 8 from rfl, Nat.mul_one, Nat.add_zero] at hf62_1); have hx62_2 := hcc62 2 _ rfl; (try simp only [show (k26).sz = 8 from rfl, Nat.mul_one, Nat.add_zero] at hx62_2); have hf62_2 := hfr62 2; (try simp only [show (k26).sz = 8 from rfl, Nat.mul_one, Nat.add_zero] at hf62_2); have hx62_3 := hcc62 3 _ rfl; (try simp only [show (k26).sz = 8 from rfl, Nat.mul_one, Nat.add_zero] at hx62_3); have hf62_3 := hfr62 3; (try simp only [show (k26).sz = 8 from rfl, Nat.mul_one, Nat.add_zero] at hf62_3); have hx62_4 := hcc62 4 _ rfl; (try simp only [show (k26).sz = 8 from rfl, Nat.mul_one, Nat.add_zero] at hx62_4); have hf62_4 := hfr62 4; (try simp only [show (k26).sz = 8 from rfl, Nat.mul_one, Nat.add_zero] at hf62_4); have hx62_5 := hcc62 5 _ rfl; (try simp only [show (k26).sz = 8 from rfl, Nat.mul_one, Nat.add_zero] at hx62_5); have hf62_5 := hfr62 5; (try simp only [show (k26).sz = 8 from rfl, Nat.mul_one, Nat.add_zero] at hf62_5); have hx62_6 := hcc62 6 _ rfl; (try simp only [show (k26).sz = 8 from rfl, Nat.mul_one, Nat.add_zero] at hx62_6); have hf62_6 := hfr62 6; (try simp only [show (k26).sz = 8 from rfl, Nat.mul_one, Nat.add_zero] at hf62_6); have hx62_7 := hcc62 7 _ rfl; (try simp only [show (k26).sz = 8 from rfl, Nat.mul_one, Nat.add_zero] at hx62_7); have hf62_7 := hfr62 7; (try simp only [show (k26).sz = 8 from rfl, Nat.mul_one, Nat.add_zero] at hf62_7); clear hcl62 hcc62 hfr62 hM62) | ((with_reducible refine gate_store (t := 26) (p := 98) rfl ?_); refine store_event (t := 26) (p := 98) (v := ?vo_w63) (w1 := ((((((((w60.setCell ⟨go54, ((rd l1 x10_4) : Int).toNat * 8, none⟩ (.int .i64 t176)).setCell ⟨go54, ((rd l1 x10_4) : Int).toNat * 8 + 1, none⟩ (.int .i64 t177)).setCell ⟨go54, ((rd l1 x10_4) : Int).toNat * 8 + 2, none⟩ (.int .i64 t178)).setCell ⟨go54, ((rd l1 x10_4) : Int).toNat * 8 + 3, none⟩ (.int .i64 t179)).setCell ⟨go54, ((rd l1 x10_4) : Int).toNat * 8 + 4, none⟩ (.int .i64 t180)).setCell ⟨go54, ((rd l1 x10_4) : Int).toNat * 8 + 5, none⟩ (.int .i64 t181)).setCell ⟨go54, ((rd l1 x10_4) : Int).toNat * 8 + 6, none⟩ (.int .i64 t182)).setCell ⟨go54, ((rd l1 x10_4) : Int).toNat * 8 + 7, none⟩ (.int .i64 t183))) ?hg ?ho ?hn ?hr ?_; (case ho => rfl); (case hg => rfl); (case hn => rfl); (case hr => first | (go_simp; done) | (go_simp; rfl)); intro w63 hw; have hg : w60.grownBy w63 (some go54) := (by rw [hw]; exact HP62.2); have hp_ : Kd.R k26 26 w63 w.heap.size (fun k_ => k_ ≠ gb188) (.slice (some ⟨go54, 0, none⟩) x8_4.length co55) y189 := (by rw [hw, Ny189.out]; exact HP62.1); clear HP62; have n0_ := Aside0.mk (Kd.R_over' (v := (.slice (some ⟨go54, 0, none⟩) x8_4.length co55)) (by (with_reducible repeat (first | apply Kd.R_alloc | apply Kd.R_drewN | apply Kd.R_drew)); exact HO_7.out) (Kd.R_typed HO_8.out) (by decide) hg); have n1_ := Aside0.mk (hp_); have n2_ := Aside0.mk (Kd.R_over' (v := (.slice (some ⟨go54, 0, none⟩) x8_4.length co55)) (by (with_reducible repeat (first | apply Kd.R_alloc | apply Kd.R_drewN | apply Kd.R_drew)); exact HO186.out) (Kd.R_typed HO_8.out) (by decide) hg); have n3_ := Aside0.mk (blk_grown (g := gb188) (o := .cells #[.int .i64 t176, .int .i64 t177, .int .i64 t178, .int .i64 t179, .int .i64 t180, .int .i64 t181, .int .i64 t182, .int .i64 t183] 26 (0, 0)) (by (with_reducible repeat (first | refine blk_drewN ?_ _ | refine blk_drew ?_ | refine blk_alloc ?_ _)); exact BK188.out) hg (Kd.R_away HO_8.out (fun _ hk => hk))); have n4_ := Aside0.mk ((by rw [hw]; exact below_set (below_set (below_set (below_set (below_set (below_set (below_set (below_set (HB.out) GB54.out) GB54.out) GB54.out) GB54.out) GB54.out) GB54.out) GB54.out) GB54.out : Below w.heap.size w w63)); clear HO_7; clear HO_8; clear HO186; clear BK188; clear HB; have HO_7 := n0_; have HO_8 := n1_; have HO186 := n2_; have BK188 := n3_; have HB := n4_; clear n0_ n1_ n2_ n3_ n4_; clear hg hw hp_))
                                    go_roundg k4
                                    case measure => have := HJ2.out; have := HJ9.out; have := HK3.out; have := HK4.out; omega
                                    case rel => exact ⟨(t184), (y189), (wrap64 (x10_4 + 1)), (by first | rfl | (simp; done) | (simp [*]; done)), H', ⟨by have := HJ2.out; have := HJ9.out; have := HK3.out; have := HK4.out; omega⟩, ⟨by (with_reducible repeat (first | apply Kd.R_alloc | apply Kd.R_drewN | apply Kd.R_drew)); exact Kd.R_mono HO186.out (fun _ hk => trivial)⟩, ⟨by (with_reducible repeat (first | apply Kd.R_alloc | apply Kd.R_drewN | apply Kd.R_drew)); exact Kd.R_mono HO_8.out (fun _ hk => trivial)⟩, ⟨by repeat (first | (with_reducible first | exact HB.out | apply below_alloc | apply pw_below_drewN | apply below_drew1 | refine below_set ?_ GE188.out) | exact HB.out)⟩⟩
                                · rw [if_neg c32] at H
                                  exact absurd H (by simp)
                              · rw [if_neg c31] at H
                                exact absurd H (by simp)
                            · replace c30 := Bool.eq_false_iff.mpr c30
                              subst c30
                              have H1 : (some ((([] : List Int)), (([] : List (S53))), 4)) = some (r1, r2, r3) := by rw [if_neg (show ¬ (false = true) by decide)] at H; exact H
                              clear H
                              have H := H1
                              clear H1
                              obtain ⟨y150, hy150⟩ : ∃ y_ : List Int, y_ = (([] : List Int)) := ⟨_, rfl⟩
                              replace H : (some (y150, (([] : List (S53))), 4)) = some (r1, r2, r3) := by first | (rw [hy150]; with_reducible exact H) | (have H2_ := (Option.bind_some _ _).symm.trans H; rw [hy150]; with_reducible exact H2_) | (have H2_ := (Option.bind_some _ _).symm.trans H; with_reducible exact H2_) | with_reducible exact H | (rw [hy150]; exact H) | exact H
                              have Ny150 := Aside0.mk hy150
                              clear hy150
                              obtain ⟨y153, hy153⟩ : ∃ y_ : List (S53), y_ = (([] : List (S53))) := ⟨_, rfl⟩
                              replace H : (some (y150, y153, 4)) = some (r1, r2, r3) := by first | (rw [hy153]; with_reducible exact H) | (have H2_ := (Option.bind_some _ _).symm.trans H; rw [hy153]; with_reducible exact H2_) | (have H2_ := (Option.bind_some _ _).symm.trans H; with_reducible exact H2_) | with_reducible exact H | (rw [hy153]; exact H) | exact H
                              have Ny153 := Aside0.mk hy153
                              clear hy153
                              simp only [Option.some.injEq, Prod.mk.injEq] at H
                              obtain ⟨rfl, rfl, rfl⟩ := H
                              have p148 : 0 ≤ (x10_4 : Int) := of_decide_eq_true (by first | (with_reducible assumption) | assumption)
                              have q148 : x10_4 < (l1.length : Int) := of_decide_eq_true (by first | (with_reducible assumption) | assumption)
                              obtain ⟨ad148, e148, hx148_0⟩ := Kd.at_int HR1.out x10_4 p148 q148
                              cases e148
                              replace hx148_0 := (HB.out.cell (World.block_lt_of_cell? w _ hx148_0)).trans hx148_0
                              replace p148 := eq_true p148
                              replace q148 := eq_true q148
                              go_wp2_with (first | ((with_reducible refine gate_callee (f := 47) rfl ?_); refine goesL_ (some 63) rfl rfl Try.func47 (by kernel_rfl) rfl #[.int .i64 (rd l1 x10_4)] rfl (by (try simp only [List.map_toArray, List.map_cons, List.map_nil]); first | done | rfl | (simp only [List.length_drop, List.length_take]; rfl)) ?_; (with_reducible refine (spec_l04Host.calls (rd l1 x10_4) false _ A29.out).mono ?_); rintro e w' ⟨rfl, ⟨nd, rfl⟩⟩; refine ⟨_, rfl, ?_⟩) | ((with_reducible refine gate_dst (N := 65) rfl ?_); refine Kd.R_lit (Kd.int .i64) _ 3 ?hg (N := 65) ?hd (xs := ([] : List Int)) (inner := []) (ok := fun _ => True) (okp := fun _ => True) ?hr ?hp (fun _ hk => hk) trivial (Below.refl _ _) (Nat.le_refl _) (by simp) ?_; (case hd => rfl); (case hg => rfl); (case hr => first | (go_simp; done) | (go_simp; rfl)); (case hp => exact (Reps.none _ _)); intro v151 w64 ho65 hb hg_ hnew_; clear hg_ hnew_; (first | rw [← Ny150.out] at ho65 | (simp only [Int.reduceToNat] at ho65; rw [← Ny150.out] at ho65)); have n0_ := Aside0.mk (Kd.R_below (by (with_reducible repeat (first | apply Kd.R_alloc | apply Kd.R_drewN | apply Kd.R_drew)); exact HO_7.out) hb); have n1_ := Aside0.mk (Kd.R_below (by (with_reducible repeat (first | apply Kd.R_alloc | apply Kd.R_drewN | apply Kd.R_drew)); exact HO_8.out) hb); have n2_ := Aside0.mk (Kd.R_lower ho65 (below_size (by repeat (first | (with_reducible first | exact HB.out | apply below_alloc | apply pw_below_drewN | apply below_drew1) | exact HB.out)))); have n3_ := Aside0.mk (below_step (by repeat (first | (with_reducible first | exact HB.out | apply below_alloc | apply pw_below_drewN | apply below_drew1) | exact HB.out)) hb); clear HO_7; clear HO_8; clear HB; have HO_7 := n0_; have HO_8 := n1_; have HO152 := n2_; have HB := n3_; clear n0_ n1_ n2_ n3_; clear hb ho65) | ((with_reducible refine gate_dst (N := 66) rfl ?_); refine Kd.R_lit k53 _ 53 ?hg (N := 66) ?hd (xs := ([] : List (S53))) (inner := []) (ok := fun _ => True) (okp := fun _ => True) ?hr ?hp (fun _ hk => hk) trivial (Below.refl _ _) (Nat.le_refl _) (by simp) ?_; (case hd => rfl); (case hg => rfl); (case hr => first | (go_simp; done) | (go_simp; rfl)); (case hp => exact (Reps.none _ _)); intro v154 w66 ho67 hb hg_ hnew_; clear hg_ hnew_; (first | rw [← Ny153.out] at ho67 | (simp only [Int.reduceToNat] at ho67; rw [← Ny153.out] at ho67)); have n0_ := Aside0.mk (Kd.R_elder' (by (with_reducible repeat (first | apply Kd.R_alloc | apply Kd.R_drewN | apply Kd.R_drew)); exact HO_7.out) (Kd.R_base ho67) hb); have n1_ := Aside0.mk (Kd.R_below (by (with_reducible repeat (first | apply Kd.R_alloc | apply Kd.R_drewN | apply Kd.R_drew)); exact HO_8.out) hb); have n2_ := Aside0.mk (Kd.R_below (by (with_reducible repeat (first | apply Kd.R_alloc | apply Kd.R_drewN | apply Kd.R_drew)); exact HO152.out) hb); have n3_ := Aside0.mk (Kd.R_lower (Kd.R_new' ho67 (Kd.R_lt (by (with_reducible repeat (first | apply Kd.R_alloc | apply Kd.R_drewN | apply Kd.R_drew)); exact HO_7.out))) (below_size (by repeat (first | (with_reducible first | exact HB.out | apply below_alloc | apply pw_below_drewN | apply below_drew1) | exact HB.out)))); have n4_ := Aside0.mk (below_step (by repeat (first | (with_reducible first | exact HB.out | apply below_alloc | apply pw_below_drewN | apply below_drew1) | exact HB.out)) hb); clear HO_7; clear HO_8; clear HO152; clear HB; have HO_7 := n0_; have HO_8 := n1_; have HO152 := n2_; have HO155 := n3_; have HB := n4_; clear n0_ n1_ n2_ n3_ n4_; clear hb ho67))
                              go_ret3
                              exact ⟨_, _, by first | rfl | (simp [errW_none, errW_some] <;> rfl) | (simp [*, errW_none, errW_some] <;> rfl), by (with_reducible repeat (first | apply Kd.R_alloc | apply Kd.R_drewN | apply Kd.R_drew)); exact HO152.out, by (with_reducible repeat (first | apply Kd.R_alloc | apply Kd.R_drewN | apply Kd.R_drew)); exact Kd.R_mono HO155.out (fun _ hk => trivial), by repeat (first | (with_reducible first | exact HB.out | apply below_alloc | apply pw_below_drewN | apply below_drew1) | exact HB.out)⟩
                          · rw [if_neg c28] at H
                            exact absurd H (by simp)
                        · rw [if_neg c27] at H
                          have c27b0 : decide (x10_4 < (l1.length : Int)) = false := decide_eq_false c27
                          clear c27
                          obtain ⟨y190, hy190⟩ : ∃ y_ : List Int, y_ = (([] : List Int)) := ⟨_, rfl⟩
                          replace H : (spec_RunPaxos.l2 k4 x7_4 x8_4 y190 0) = some (r1, r2, r3) := by first | (rw [hy190]; with_reducible exact H) | (have H2_ := (Option.bind_some _ _).symm.trans H; rw [hy190]; with_reducible exact H2_) | (have H2_ := (Option.bind_some _ _).symm.trans H; with_reducible exact H2_) | with_reducible exact H | (rw [hy190]; exact H) | exact H
                          have Ny190 := Aside0.mk hy190
                          clear hy190
                          have H' := Aside0.mk H
                          clear H
                          go_wp2_with (first | ((with_reducible refine gate_dst (N := 100) rfl ?_); refine Kd.R_lit (Kd.int .i64) _ 3 ?hg (N := 100) ?hd (xs := ([] : List Int)) (inner := []) (ok := fun _ => True) (okp := fun _ => True) ?hr ?hp (fun _ hk => hk) trivial (Below.refl _ _) (Nat.le_refl _) (by simp) ?_; (case hd => rfl); (case hg => rfl); (case hr => first | (go_simp; done) | (go_simp; rfl)); (case hp => exact (Reps.none _ _)); intro v191 w68 ho69 hb hg_ hnew_; clear hg_ hnew_; (first | rw [← Ny190.out] at ho69 | (simp only [Int.reduceToNat] at ho69; rw [← Ny190.out] at ho69)); have n0_ := Aside0.mk (Kd.R_below (by (with_reducible repeat (first | apply Kd.R_alloc | apply Kd.R_drewN | apply Kd.R_drew)); exact HO_7.out) hb); have n1_ := Aside0.mk (Kd.R_below (by (with_reducible repeat (first | apply Kd.R_alloc | apply Kd.R_drewN | apply Kd.R_drew)); exact HO_8.out) hb); have n2_ := Aside0.mk (Kd.R_lower ho69 (below_size (by repeat (first | (with_reducible first | exact HB.out | apply below_alloc | apply pw_below_drewN | apply below_drew1) | exact HB.out)))); have n3_ := Aside0.mk (below_step (by repeat (first | (with_reducible first | exact HB.out | apply below_alloc | apply pw_below_drewN | apply below_drew1) | exact HB.out)) hb); clear HO_7; clear HO_8; clear HB; have HO_7 := n0_; have HO_8 := n1_; have HO192 := n2_; have HB := n3_; clear n0_ n1_ n2_ n3_; clear hb ho69))
                          go_loopg [15, 16] k4 (fun kq v15 v16 w' => ∃ (x15_5 : List Int) (x16_5 : Int), v16 = .int .i64 x16_5 ∧ Aside0 (spec_RunPaxos.l2 kq x7_4 x8_4 x15_5 x16_5 = some (r1, r2, r3)) ∧ Aside0 (kq ≤ k4) ∧ Aside0 (Kd.R k53 53 w' w.heap.size (fun _ => True) u7 x7_4) ∧ Aside0 (Kd.R k26 26 w' w.heap.size (fun _ => True) u8 x8_4) ∧ Aside0 (Kd.R (Kd.int .i64) 3 w' w.heap.size (fun _ => True) v15 x15_5) ∧ Aside0 (Below w.heap.size w w'))
                          case atStart => exact ⟨(y190), (0), (by first | rfl | (simp; done) | (simp [*]; done)), H', ⟨Nat.le_refl _⟩, ⟨by (with_reducible repeat (first | apply Kd.R_alloc | apply Kd.R_drewN | apply Kd.R_drew)); exact HO_7.out⟩, ⟨by (with_reducible repeat (first | apply Kd.R_alloc | apply Kd.R_drewN | apply Kd.R_drew)); exact HO_8.out⟩, ⟨by (with_reducible repeat (first | apply Kd.R_alloc | apply Kd.R_drewN | apply Kd.R_drew)); exact HO192.out⟩, ⟨by repeat (first | (with_reducible first | exact HB.out | apply below_alloc | apply pw_below_drewN | apply below_drew1) | exact HB.out)⟩⟩
                          case round =>
                            clear H'
                            try clear c1
                            try clear p1
                            try clear q1
                            try clear hx1
                            try clear c2
                            try clear p2
                            try clear c3
                            try clear p3
                            try clear q3
                            try clear hx3
                            try clear hf3
                            try clear c4
                            try clear c4b0
                            try clear c4b1
                            try clear c5
                            try clear p5
                            try clear q5
                            try clear hx5
                            try clear hf5
                            try clear c6
                            try clear p6
                            try clear hx6
                            try clear hf6
                            try clear c11
                            try clear c11b0
                            try clear c11b1
                            try clear c13
                            try clear p14
                            try clear q14
                            try clear hx14
                            try clear p15
                            try clear q15
                            try clear hx15
                            try clear p17
                            try clear q17
                            try clear hx17
                            try clear c18
                            try clear c22
                            try clear c22b0
                            try clear c23
                            try clear c23b0
                            try clear c24
                            try clear c24b0
                            try clear c25
                            try clear c27
                            try clear c27b0
                            try clear c28
                            try clear c28b0
                            try clear c30
                            try clear c31
                            try clear c31b0
                            try clear c32
                            try clear c32b0
                            try clear c33
                            try clear c33b0
                            try clear c33b1
                            try clear c35
                            try clear c35b0
                            try clear c36
                            try clear p36
                            try clear q36
                            try clear hx36
                            try clear hf36
                            try clear c37
                            try clear p37
                            try clear q37
                            try clear c39
                            try clear p39
                            try clear q39
                            try clear hx39
                            try clear hf39
                            try clear c44
                            try clear c47
                            try clear c48
                            try clear c51
                            try clear hx51
                            try clear hf51
                            try clear c54
                            try clear p54
                            try clear q54
                            try clear hx54
                            try clear hf54
                            try clear c62
                            try clear hx62
                            try clear hf62
                            try clear p64
                            try clear hcz48_0
                            try clear hcz48_1
                            try clear hcz48_2
                            try clear hcz48_3
                            try clear hcz48_4
                            try clear hcz48_5
                            try clear hcz48_6
                            try clear hcz48_7
                            try clear hcz50_0
                            try clear hcz50_1
                            try clear hcz50_2
                            try clear hcz50_3
                            try clear hcz50_4
                            try clear hcz50_5
                            try clear hcz50_6
                            try clear hcz50_7
                            try clear hcz59_0
                            try clear hcz59_1
                            try clear hcz59_2
                            try clear hcz59_3
                            try clear hcz59_4
                            try clear hcz59_5
                            try clear hcz59_6
                            try clear hcz59_7
                            try clear hcz61_0
                            try clear hcz61_1
                            try clear hcz61_2
                            try clear hcz61_3
                            try clear hcz61_4
                            try clear hcz61_5
                            try clear hcz61_6
                            try clear hcz61_7
                            try clear hfz48_0
                            try clear hfz48_1
                            try clear hfz48_2
                            try clear hfz48_3
                            try clear hfz48_4
                            try clear hfz48_5
                            try clear hfz48_6
                            try clear hfz48_7
                            try clear hfz50_0
                            try clear hfz50_1
                            try clear hfz50_2
                            try clear hfz50_3
                            try clear hfz50_4
                            try clear hfz50_5
                            try clear hfz50_6
                            try clear hfz50_7
                            try clear hfz59_0
                            try clear hfz59_1
                            try clear hfz59_2
                            try clear hfz59_3
                            try clear hfz59_4
                            try clear hfz59_5
                            try clear hfz59_6
                            try clear hfz59_7
                            try clear hfz61_0
                            try clear hfz61_1
                            try clear hfz61_2
                            try clear hfz61_3
                            try clear hfz61_4
                            try clear hfz61_5
                            try clear hfz61_6
                            try clear hfz61_7
                            try clear hx144_0
                            try clear hx148_0
                            try clear hx156_0
                            try clear hx156_1
                            try clear hx156_2
                            try clear hx156_3
                            try clear hx156_4
                            try clear hx156_5
                            try clear hx156_6
                            try clear hx156_7
                            try clear hx158_0
                            try clear hx175_0
                            try clear hx175_1
                            try clear hx175_2
                            try clear hx175_3
                            try clear hx175_4
                            try clear hx175_5
                            try clear hx175_6
                            try clear hx175_7
                            try clear hx36_0
                            try clear hx36_1
                            try clear hx36_2
                            try clear hx36_3
                            try clear hx36_4
                            try clear hx36_5
                            try clear hx36_6
                            try clear hx36_7
                            try clear hx39_0
                            try clear hx39_1
                            try clear hx39_2
                            try clear hx39_3
                            try clear hx39_4
                            try clear hx39_5
                            try clear hx39_6
                            try clear hx39_7
                            try clear hx51_0
                            try clear hx51_1
                            try clear hx51_2
                            try clear hx51_3
                            try clear hx51_4
                            try clear hx51_5
                            try clear hx51_6
                            try clear hx51_7
                            try clear hx54_0
                            try clear hx54_1
                            try clear hx54_2
                            try clear hx54_3
                            try clear hx54_4
                            try clear hx54_5
                            try clear hx54_6
                            try clear hx54_7
                            try clear hx62_0
                            try clear hx62_1
                            try clear hx62_2
                            try clear hx62_3
                            try clear hx62_4
                            try clear hx62_5
                            try clear hx62_6
                            try clear hx62_7
                            try clear p1
                            try clear p14
                            try clear p144
                            try clear p148
                            try clear p156
                            try clear p158
                            try clear p175
                            try clear p2
                            try clear p36
                            try clear p37
                            try clear p39
                            try clear p54
                            try clear p6
                            try clear q1
                            try clear q14
                            try clear q144
                            try clear q148
                            try clear q156
                            try clear q158
                            try clear q175
                            try clear q36
                            try clear q37
                            try clear q39
                            try clear q54
                            obtain ⟨x15_5, x16_5, rfl, HA, HK5, HO_7, HO_8, HO_15, HB⟩ := hrel
                            cases gk with
                            | zero => exact absurd HA.out (by simp [spec_RunPaxos.l2])
                            | succ k5 =>
                              have H := HA.out
                              clear HA
                              simp only [spec_RunPaxos.l2] at H
                              by_cases c70 : x16_5 < 4
                              · rw [if_pos c70] at H
                                have c70b0 : decide (x16_5 < 4) = true := decide_eq_true c70
                                clear c70
                                by_cases c71 : 0 ≤ x16_5
                                · rw [if_pos c71] at H
                                  have c71b0 : decide (0 ≤ x16_5) = true := decide_eq_true c71
                                  clear c71
                                  by_cases c72 : x16_5 < (x8_4.length : Int)
                                  · rw [if_pos c72] at H
                                    have c72b0 : decide (x16_5 < (x8_4.length : Int)) = true := decide_eq_true c72
                                    clear c72
                                    by_cases c73 : ((rd_T26 x8_4 x16_5).f2) = 5
                                    · rw [if_pos c73] at H
                                      have c73b0 : (((rd_T26 x8_4 x16_5).f2) == 5) = true := beq_iff_eq.mpr c73
                                      have c73b1 : (((rd_T26 x8_4 x16_5).f2) != 5) = false := bne_eq_false_iff_eq.mpr c73
                                      clear c73
                                      by_cases c74 : x15_5.length < 17592186044416
                                      · rw [if_pos c74] at H
                                        have LMc74 := Aside0.mk c74
                                        clear c74
                                        obtain ⟨y195, hy195⟩ : ∃ y_ : List Int, y_ = (x15_5 ++ [(rd_T26 x8_4 x16_5).f4]) := ⟨_, rfl⟩
                                        replace H : (spec_RunPaxos.l2 k5 x7_4 x8_4 y195 (wrap64 (x16_5 + 1))) = some (r1, r2, r3) := by first | (rw [hy195]; with_reducible exact H) | (have H2_ := (Option.bind_some _ _).symm.trans H; rw [hy195]; with_reducible exact H2_) | (have H2_ := (Option.bind_some _ _).symm.trans H; with_reducible exact H2_) | with_reducible exact H | (rw [hy195]; exact H) | exact H
                                        have Ny195 := Aside0.mk hy195
                                        clear hy195
                                        have H' := Aside0.mk H
                                        clear H
                                        obtain ⟨Ao75, co75, eo75⟩ := Kd.R_slice HO_8.out
                                        subst eo75
                                        have p193 : 0 ≤ (x16_5 : Int) := of_decide_eq_true (by first | (with_reducible assumption) | assumption)
                                        have q193 : x16_5 < (x8_4.length : Int) := of_decide_eq_true (by first | (with_reducible assumption) | assumption)
                                        obtain ⟨ad193, e193, hx193_0, hx193_1, hx193_2, hx193_3, hx193_4, hx193_5, hx193_6, hx193_7⟩ := at_T26 (Kd.R_reads' HO_8.out).2.2 x16_5 p193 q193
                                        cases e193
                                        replace p193 := eq_true p193
                                        replace q193 := eq_true q193
                                        have p194 : 0 ≤ (x16_5 : Int) := of_decide_eq_true (by first | (with_reducible assumption) | assumption)
                                        have q194 : x16_5 < (x8_4.length : Int) := of_decide_eq_true (by first | (with_reducible assumption) | assumption)
                                        obtain ⟨ad194, e194, hx194_0, hx194_1, hx194_2, hx194_3, hx194_4, hx194_5, hx194_6, hx194_7⟩ := at_T26 (Kd.R_reads' HO_8.out).2.2 x16_5 p194 q194
                                        obtain rfl : ad193 = ad194 := (by injection e194)
                                        replace p194 := eq_true p194
                                        replace q194 := eq_true q194
                                        go_wp2_with (first | ((with_reducible refine gate_builtin (b := .append) (xs := #[.tmp 111, .tmp 117]) rfl ?_); at_builtin; refine Kd.R_append (Kd.int .i64) (w0 := w) w.heap.size rfl (.tmp 111) (.tmp 117) 36 3 (.int .i64 0) 8 rfl Try.underlying36 info3 rfl (by decide) (by omega) u15 x15_5 ((rd_T26 x8_4 x16_5).f4) [.int .i64 ((rd_T26 x8_4 x16_5).f4)] (fun _ => True) (fun _ => False) rfl rfl ?aP (fun _ hk => hk.elim) ?aF ?aO ?aB ?aS ?aL ?_; (case aP => exact rfl); (case aB => exact (by repeat (first | (with_reducible first | exact HB.out | apply below_alloc | apply pw_below_drewN | apply below_drew1) | exact HB.out))); (case aF => exact (fun _ _ => trivial)); (case aO => exact (by (with_reducible repeat (first | apply Kd.R_alloc | apply Kd.R_drewN | apply Kd.R_drew)); exact HO_15.out)); (case aS => exact (below_size (by repeat (first | (with_reducible first | exact HB.out | apply below_alloc | apply pw_below_drewN | apply below_drew1) | exact HB.out)))); (case aL => have := LMc74.out; omega); intro v196 w76 ho hb hg hat; rw [← Ny195.out] at ho; have n0_ := Aside0.mk (Kd.R_over' (by (with_reducible repeat (first | apply Kd.R_alloc | apply Kd.R_drewN | apply Kd.R_drew)); exact HO_7.out) (Kd.R_typed (by (with_reducible repeat (first | apply Kd.R_alloc | apply Kd.R_drewN | apply Kd.R_drew)); exact HO_15.out)) (by decide) hg); have n1_ := Aside0.mk (Kd.R_over' (by (with_reducible repeat (first | apply Kd.R_alloc | apply Kd.R_drewN | apply Kd.R_drew)); exact HO_8.out) (Kd.R_typed (by (with_reducible repeat (first | apply Kd.R_alloc | apply Kd.R_drewN | apply Kd.R_drew)); exact HO_15.out)) (by decide) hg); have n2_ := Aside0.mk (hb); have n3_ := Aside0.mk (ho); clear HO_7; clear HO_8; clear HB; clear HO_15; have HO_7 := n0_; have HO_8 := n1_; have HB := n2_; have HO197 := n3_; clear n0_ n1_ n2_ n3_; clear ho hb hg hat))
                                        go_roundg k5
                                        case measure => have := HJ2.out; have := HJ9.out; have := HK3.out; have := HK4.out; have := HK5.out; omega
                                        case rel => exact ⟨(y195), (wrap64 (x16_5 + 1)), (by first | rfl | (simp; done) | (simp [*]; done)), H', ⟨by have := HJ2.out; have := HJ9.out; have := HK3.out; have := HK4.out; have := HK5.out; omega⟩, ⟨by (with_reducible repeat (first | apply Kd.R_alloc | apply Kd.R_drewN | apply Kd.R_drew)); exact HO_7.out⟩, ⟨by (with_reducible repeat (first | apply Kd.R_alloc | apply Kd.R_drewN | apply Kd.R_drew)); exact HO_8.out⟩, ⟨by (with_reducible repeat (first | apply Kd.R_alloc | apply Kd.R_drewN | apply Kd.R_drew)); exact HO197.out⟩, ⟨by repeat (first | (with_reducible first | exact HB.out | apply below_alloc | apply pw_below_drewN | apply below_drew1) | exact HB.out)⟩⟩
                                      · rw [if_neg c74] at H
                                        exact absurd H (by simp)
                                    · rw [if_neg c73] at H
                                      have c73b0 : (((rd_T26 x8_4 x16_5).f2) == 5) = false := beq_eq_false_iff_ne.mpr c73
                                      have c73b1 : (((rd_T26 x8_4 x16_5).f2) != 5) = true := bne_iff_ne.mpr c73
                                      by_cases c77 : x15_5.length < 17592186044416
                                      · rw [if_pos c77] at H
                                        have LMc77 := Aside0.mk c77
                                        clear c77
                                        obtain ⟨y198, hy198⟩ : ∃ y_ : List Int, y_ = (x15_5 ++ [(-1)]) := ⟨_, rfl⟩
                                        replace H : (spec_RunPaxos.l2 k5 x7_4 x8_4 y198 (wrap64 (x16_5 + 1))) = some (r1, r2, r3) := by first | (rw [hy198]; with_reducible exact H) | (have H2_ := (Option.bind_some _ _).symm.trans H; rw [hy198]; with_reducible exact H2_) | (have H2_ := (Option.bind_some _ _).symm.trans H; with_reducible exact H2_) | with_reducible exact H | (rw [hy198]; exact H) | exact H
                                        have Ny198 := Aside0.mk hy198
                                        clear hy198
                                        have H' := Aside0.mk H
                                        clear H
                                        obtain ⟨Ao78, co78, eo78⟩ := Kd.R_slice HO_8.out
                                        subst eo78
                                        have p193 : 0 ≤ (x16_5 : Int) := of_decide_eq_true (by first | (with_reducible assumption) | assumption)
                                        have q193 : x16_5 < (x8_4.length : Int) := of_decide_eq_true (by first | (with_reducible assumption) | assumption)
                                        obtain ⟨ad193, e193, hx193_0, hx193_1, hx193_2, hx193_3, hx193_4, hx193_5, hx193_6, hx193_7⟩ := at_T26 (Kd.R_reads' HO_8.out).2.2 x16_5 p193 q193
                                        cases e193
                                        replace p193 := eq_true p193
                                        replace q193 := eq_true q193
                                        go_wp2_with (first | ((with_reducible refine gate_builtin (b := .append) (xs := #[.tmp 119, .tmp 120]) rfl ?_); at_builtin; refine Kd.R_append (Kd.int .i64) (w0 := w) w.heap.size rfl (.tmp 119) (.tmp 120) 36 3 (.int .i64 0) 8 rfl Try.underlying36 info3 rfl (by decide) (by omega) u15 x15_5 (-1) [.int .i64 (-1)] (fun _ => True) (fun _ => False) rfl rfl ?aP (fun _ hk => hk.elim) ?aF ?aO ?aB ?aS ?aL ?_; (case aP => exact rfl); (case aB => exact (by repeat (first | (with_reducible first | exact HB.out | apply below_alloc | apply pw_below_drewN | apply below_drew1) | exact HB.out))); (case aF => exact (fun _ _ => trivial)); (case aO => exact (by (with_reducible repeat (first | apply Kd.R_alloc | apply Kd.R_drewN | apply Kd.R_drew)); exact HO_15.out)); (case aS => exact (below_size (by repeat (first | (with_reducible first | exact HB.out | apply below_alloc | apply pw_below_drewN | apply below_drew1) | exact HB.out)))); (case aL => have := LMc77.out; omega); intro v199 w79 ho hb hg hat; rw [← Ny198.out] at ho; have n0_ := Aside0.mk (Kd.R_over' (by (with_reducible repeat (first | apply Kd.R_alloc | apply Kd.R_drewN | apply Kd.R_drew)); exact HO_7.out) (Kd.R_typed (by (with_reducible repeat (first | apply Kd.R_alloc | apply Kd.R_drewN | apply Kd.R_drew)); exact HO_15.out)) (by decide) hg); have n1_ := Aside0.mk (Kd.R_over' (by (with_reducible repeat (first | apply Kd.R_alloc | apply Kd.R_drewN | apply Kd.R_drew)); exact HO_8.out) (Kd.R_typed (by (with_reducible repeat (first | apply Kd.R_alloc | apply Kd.R_drewN | apply Kd.R_drew)); exact HO_15.out)) (by decide) hg); have n2_ := Aside0.mk (hb); have n3_ := Aside0.mk (ho); clear HO_7; clear HO_8; clear HB; clear HO_15; have HO_7 := n0_; have HO_8 := n1_; have HB := n2_; have HO200 := n3_; clear n0_ n1_ n2_ n3_; clear ho hb hg hat))
                                        go_roundg k5
                                        case measure => have := HJ2.out; have := HJ9.out; have := HK3.out; have := HK4.out; have := HK5.out; omega
                                        case rel => exact ⟨(y198), (wrap64 (x16_5 + 1)), (by first | rfl | (simp; done) | (simp [*]; done)), H', ⟨by have := HJ2.out; have := HJ9.out; have := HK3.out; have := HK4.out; have := HK5.out; omega⟩, ⟨by (with_reducible repeat (first | apply Kd.R_alloc | apply Kd.R_drewN | apply Kd.R_drew)); exact HO_7.out⟩, ⟨by (with_reducible repeat (first | apply Kd.R_alloc | apply Kd.R_drewN | apply Kd.R_drew)); exact HO_8.out⟩, ⟨by (with_reducible repeat (first | apply Kd.R_alloc | apply Kd.R_drewN | apply Kd.R_drew)); exact HO200.out⟩, ⟨by repeat (first | (with_reducible first | exact HB.out | apply below_alloc | apply pw_below_drewN | apply below_drew1) | exact HB.out)⟩⟩
                                      · rw [if_neg c77] at H
                                        exact absurd H (by simp)
                                  · rw [if_neg c72] at H
                                    exact absurd H (by simp)
                                · rw [if_neg c71] at H
                                  exact absurd H (by simp)
                              · rw [if_neg c70] at H
                                have c70b0 : decide (x16_5 < 4) = false := decide_eq_false c70
                                clear c70
                                simp only [Option.some.injEq, Prod.mk.injEq] at H
                                obtain ⟨rfl, rfl, rfl⟩ := H
                                go_wp2
                                go_ret3
                                exact ⟨_, _, by first | rfl | (simp [errW_none, errW_some] <;> rfl) | (simp [*, errW_none, errW_some] <;> rfl), by (with_reducible repeat (first | apply Kd.R_alloc | apply Kd.R_drewN | apply Kd.R_drew)); exact HO_15.out, by (with_reducible repeat (first | apply Kd.R_alloc | apply Kd.R_drewN | apply Kd.R_drew)); exact HO_7.out, by repeat (first | (with_reducible first | exact HB.out | apply below_alloc | apply pw_below_drewN | apply below_drew1) | exact HB.out)⟩

end Go.Proofs.Ytlclbdfcniiolaa.Q
