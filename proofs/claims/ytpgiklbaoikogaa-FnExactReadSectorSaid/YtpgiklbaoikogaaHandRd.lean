/- The program's read of a disk: what a host reads, by a loop over slices.Backward; for every disk, host and place (a place outside the sectors: the function here tells nothing). -/
import Derived.Test.YtpgiklbaoikogaaHandW
import Derived.BigQuiet
namespace Go.Proofs.Ytpgiklbaoikogaa.Hand
open Go.RowKit Go.Shelf Go.Proofs.YtpgiklbaoikogaaW.PrintWords Go.Proofs.YtpgiklbaoikogaaW.PrintLast Go.Proofs.YtpgiklbaoikogaaW.PrintMore Go.Proofs.Ytpgiklbaoikogaa.Q
set_option linter.unusedVariables false
set_option linter.unusedSimpArgs false
attribute [local go_sem] Oper.semAt_some
/-- Whether a write is the host's at a place. -/
def isAt (h a : Int) (p : Int × S84) : Bool := p.2.f0 == h && p.2.f1 == a
def impl_Disk_read.f (l0_0 : List ByteArray) (l0_1 : List S84) (a1 : Int) (a2 : Int) : Option ByteArray :=
  match (back l0_1 l0_1.length).find? (isAt a1 a2) with
  | some p => some p.2.f2
  | none => if 0 ≤ a2 ∧ a2 < (l0_0.length : Int) then some (rdOf ByteArray.empty l0_0 a2) else none
theorem find_none {h a : Int} {l : List (Int × S84)} (hl : ∀ p ∈ l, isAt h a p = false) : l.find? (isAt h a) = none :=
  List.find?_eq_none.2 fun p hp => by rw [hl p hp]; exact Bool.false_ne_true
theorem find_hit {h a : Int} {zs : List S84} {k : Nat} {ini : List (Int × S84)} {last : Int × S84} (hk : k ≤ zs.length) (e : back zs k = ini ++ [last]) (hi : ∀ p ∈ ini, isAt h a p = false) (hl : isAt h a last = true) : (back zs zs.length).find? (isAt h a) = some last := by
  have e1 : back zs zs.length = back zs k ++ (back zs zs.length).drop k := by
    have : back zs k = (back zs zs.length).take k := by
      simp only [back, ← List.map_take, List.take_range]
      rw [Nat.min_eq_left hk]
    rw [this, List.take_append_drop]
  rw [e1, e, List.append_assoc, List.find?_append, find_none hi]
  simp [hl]
set_option maxRecDepth 100000 in
set_option maxHeartbeats 8000000 in
theorem read_in (F : Fence) (n : Nat) (h80 : F.fn 80) (h102 : F.fn 102) (h110 : F.fn 110) (hro : F.round = none) (hn : 3 ≤ n)
    (A0_0 : Option Addr) (c0_0 : Nat) (l0_0 : List ByteArray) (A0_1 : Option Addr) (c0_1 : Nat) (l0_1 : List S84) (a1 a2 : Int) (r : ByteArray) (w : World) (hr0_0 : Kd.C Kd.string w A0_0 l0_0.length l0_0) (hr0_1 : Kd.C k84 w A0_1 l0_1.length l0_1) (h : impl_Disk_read.f l0_0 l0_1 a1 a2 = some r) :
    CallsIn F n Try.prog 80 #[.agg #[.slice A0_0 l0_0.length c0_0, .slice A0_1 l0_1.length c0_1], .int .i64 a1, .int .i64 a2] w fun e W' => e = .returned (.string r) ∧ Below w.heap.size w W' := by
  have hut := Try.underlying84
  have hud := Try.underlying25
  have h1 : 1 ≤ n := by omega
  have HR0 := Aside0.mk hr0_0
  have HR1 := Aside0.mk hr0_1
  have HH := Aside0.mk h
  clear hr0_0 hr0_1 h
  refine callsIn_of_wp_marks Try.func80 rfl h80 ?_ hro
  simp only [Try.ntmps80, List.size_toArray, List.length_cons, List.length_nil, Nat.reduceAdd, Nat.reduceSub, Array.replicate_succ, Array.replicate_zero, List.push_toArray, List.append_toArray, List.nil_append, List.cons_append]
  gi_wp2_with (gi_at_call 102; refine (back_in F (n - 1) h102 hro _ _ _ _).mono ?_; rintro e w' ⟨rfl, rfl⟩)
  obtain ⟨W0, hW0⟩ : ∃ W0, (((((w.alloc (.cells #[.slice A0_0 l0_0.length c0_0, .slice A0_1 l0_1.length c0_1] 25)).alloc (.cells #[.int .i64 a1] 3)).alloc (.cells #[.int .i64 a2] 3)).alloc (.cells #[.string ⟨#[]⟩] 9)).alloc (.cells #[.slice A0_1 l0_1.length c0_1] 23)) = W0 := ⟨_, rfl⟩
  have hsz : W0.heap.size = w.heap.size + 5 := by rw [← hW0]; simp
  have hB0 : Below w.heap.size w W0 := by
    rw [← hW0]; exact (((((Below.refl _ w).alloc (Nat.le_refl _) _).alloc (by simp) _).alloc (by simp; omega) _).alloc (by simp; omega) _).alloc (by simp; omega) _
  have cD0 : W0.cell? ⟨w.heap.size, 0, none⟩ = some (.slice A0_0 l0_0.length c0_0) := by rw [← hW0]; simp [go_sem]
  have cH : W0.cell? ⟨w.heap.size + 1, 0, none⟩ = some (.int .i64 a1) := by rw [← hW0]; simp [go_sem]
  have cA : W0.cell? ⟨w.heap.size + 1 + 1, 0, none⟩ = some (.int .i64 a2) := by rw [← hW0]; simp [go_sem]
  have cR : W0.cell? ⟨w.heap.size + 1 + 1 + 1, 0, none⟩ = some (.string ⟨#[]⟩) := by rw [← hW0]; simp [go_sem]
  have fR : W0.frozen? ⟨w.heap.size + 1 + 1 + 1, 0, none⟩ = false := by rw [← hW0]; simp [go_sem]
  have cB : W0.cell? ⟨w.heap.size + 1 + 1 + 1 + 1, 0, none⟩ = some (.slice A0_1 l0_1.length c0_1) := by rw [← hW0]; simp [go_sem]
  rw [hW0]
  clear hW0
  refine wpIn_rangeFunc_ownH hro h1 (gf := 110) (lb := #[.pointer (some ⟨w.heap.size + 1 + 1 + 1 + 1, 0, none⟩)]) rfl h110 (enters_of Try.func110 (by kernel_rfl) rfl)
    (back_stops F (n - 1) h110 hro (by omega) (w.heap.size + 1 + 1 + 1 + 1) w A0_1 c0_1 l0_1 HR1.out W0 hB0 (by omega) cB) kb_t (kb_b (by omega)) (Below.refl _ _) (fun _ => rfl)
    (fun pre W => (∀ p ∈ pre, isAt a1 a2 p = false) ∧ Below W0.heap.size W0 W)
    (fun c pre W => (c = .ret ∧ ∃ ini last, pre = ini ++ [last] ∧ (∀ p ∈ ini, isAt a1 a2 p = false) ∧ isAt a1 a2 last = true ∧ W.cell? ⟨w.heap.size + 1 + 1 + 1, 0, none⟩ = some (.string last.2.f2)) ∧ Below w.heap.size w W)
    (OwnFrom.and (ownFrom_pure _ _) (ownFrom_below (Nat.le_refl _) (Nat.le_refl _)))
    (fun c => OwnFrom.and (Own.from (fun s A B row hs hg hr => by obtain ⟨hc, ini, last, e1, e2, e3, e4⟩ := hs; exact ⟨hc, ini, last, e1, e2, e3, cell_kept e4 hg hr⟩) _) (ownFrom_below (Nat.le_refl _) (by omega)))
    ⟨by simp, Below.refl _ _⟩
    (fun x a' W => ∃ Bx, W0.heap.size ≤ Bx ∧ (W.cell? ⟨Bx, 0, none⟩ = some (.int .i64 x.2.f0) ∧ W.cell? ⟨Bx, 1, none⟩ = some (.int .i64 x.2.f1) ∧ W.cell? ⟨Bx, 2, none⟩ = some (.string x.2.f2)) ∧ a' = { tmps := #[.agg #[.slice A0_0 l0_0.length c0_0, .slice A0_1 l0_1.length c0_1], .int .i64 a1, .int .i64 a2, .pointer (some ⟨w.heap.size, 0, none⟩), .pointer (some ⟨w.heap.size + 1, 0, none⟩), .pointer (some ⟨w.heap.size + 1 + 1, 0, none⟩), .pointer (some ⟨w.heap.size + 1 + 1 + 1, 0, none⟩), undef, .pointer (some ⟨Bx, 0, none⟩), .pointer (some ⟨w.heap.size, 1, none⟩), .slice A0_1 l0_1.length c0_1, .func (.func 110) #[] #[.pointer (some ⟨w.heap.size + 1 + 1 + 1 + 1, 0, none⟩)], .int .i64 x.1, .agg #[.int .i64 x.2.f0, .int .i64 x.2.f1, .string x.2.f2], undef, undef, undef, undef, undef, undef, undef, undef, undef, undef, undef, undef, undef, undef, undef, undef, undef], defers := [] })
    (fun x a' _ X Y row hs hg hr => by obtain ⟨Bx, g1, ⟨g2, g3, g4⟩, g5⟩ := hs; exact ⟨Bx, g1, ⟨cell_kept g2 hg (fun r e => (hr r e).2), cell_kept g3 hg (fun r e => (hr r e).2), cell_kept g4 hg (fun r e => (hr r e).2)⟩, g5⟩)
    ?assign ?body ?done ?stop
  case assign =>
    rintro l pre x W K ⟨hp, hB⟩ hK
    gi_wp2
    refine hK _ _ ((KeepsOthers.alloc _ _).from _) ⟨(Below.refl _ W).alloc (Nat.le_trans hB0.size hB.size) _, fun v hv => ?_⟩ ⟨hp, hB.alloc hB.size _⟩ ⟨W.heap.size, hB.size, ⟨by simp [go_sem], by simp [go_sem], by simp [go_sem]⟩, rfl⟩
    exact (((Below.refl W.heap.size W).alloc (Nat.le_refl _) _).cell (World.block_lt_of_cell? W _ hv)).trans hv
  case body =>
    rintro l pre x a' W hl ⟨rr, hrr⟩ ⟨hp, hB⟩ ⟨Bx, hBx, ⟨x0, x1, x2⟩, rfl⟩ hlt
    have kH := (hB.cell (p := ⟨w.heap.size + 1, 0, none⟩) (by simp; omega)).trans cH
    have kA := (hB.cell (p := ⟨w.heap.size + 1 + 1, 0, none⟩) (by simp; omega)).trans cA
    have kR := (hB.cell (p := ⟨w.heap.size + 1 + 1 + 1, 0, none⟩) (by simp; omega)).trans cR
    have jR := (hB.frozen (p := ⟨w.heap.size + 1 + 1 + 1, 0, none⟩) (by simp; omega)).trans fR
    have hBw : Below w.heap.size w W := hB0.trans (hB.mono (by omega))
    by_cases e1 : x.2.f0 = a1
    · by_cases e2 : x.2.f1 = a2
      · have hx : isAt a1 a2 x = true := by unfold isAt; rw [e1, e2]; simp
        gi_wp2
        refine ⟨(KeepsOthers.setCell _ _ _).from _, ⟨rfl, pre, x, rfl, hp, hx, World.cell?_setCell_same' _ _ _ (by rw [kR]; rfl)⟩, hBw.setCell (p := ⟨w.heap.size + 1 + 1 + 1, 0, none⟩) (by simp; omega) _⟩
      · have hx : isAt a1 a2 x = false := by unfold isAt; simp [e2]
        gi_wp2
        exact ⟨KeepsFrom.refl _ _, KB.refl _ _ _, ⟨fun p hp' => (List.mem_append.1 hp').elim (hp p) (fun e => by simp at e; subst e; exact hx), hB⟩⟩
    · have hx : isAt a1 a2 x = false := by unfold isAt; simp [e1]
      gi_wp2
      exact ⟨KeepsFrom.refl _ _, KB.refl _ _ _, ⟨fun p hp' => (List.mem_append.1 hp').elim (hp p) (fun e => by simp at e; subst e; exact hx), hB⟩⟩
  case done =>
    rintro D ys W hD rfl ⟨hne, hB⟩ hK
    have hf := HH.out
    unfold impl_Disk_read.f at hf
    rw [find_none hne] at hf
    have hin : 0 ≤ a2 ∧ a2 < (l0_0.length : Int) := by
      by_cases hin : 0 ≤ a2 ∧ a2 < (l0_0.length : Int)
      · exact hin
      · rw [if_neg hin] at hf; cases hf
    rw [if_pos hin] at hf
    have hv := Option.some.inj hf
    have kD := (hB.cell (p := ⟨w.heap.size, 0, none⟩) (by simp; omega)).trans cD0
    have kA := (hB.cell (p := ⟨w.heap.size + 1 + 1, 0, none⟩) (by simp; omega)).trans cA
    have kR := (hB.cell (p := ⟨w.heap.size + 1 + 1 + 1, 0, none⟩) (by simp; omega)).trans cR
    have jR := (hB.frozen (p := ⟨w.heap.size + 1 + 1 + 1, 0, none⟩) (by simp; omega)).trans fR
    have hBw : Below w.heap.size w W := hB0.trans (hB.mono (by omega))
    obtain ⟨ad, e, hx0⟩ := Kd.at_string (Kd.C_below HR0.out hBw) a2 hin.1 hin.2
    cases e
    have p1 : (0 ≤ a2) = True := eq_true hin.1
    have q1 : (a2 < (l0_0.length : Int)) = True := eq_true hin.2
    rw [hv] at hx0
    gi_wp2
    have hK' := (KeepsOthers.setCell W ⟨w.heap.size + 1 + 1 + 1, 0, none⟩ (.string r)).same D _ hK rfl
    refine ⟨by simp, .inl ⟨_, _, rfl, run_takeDeferred hK', ?_⟩⟩
    have hc5 := cell_kept (World.cell?_setCell_same' W ⟨w.heap.size + 1 + 1 + 1, 0, none⟩ (.string r) (by rw [kR]; rfl)) (grownBy_putObj' _ D (.deferred none)) (fun r e => by cases e; exact ⟨_, hK', rfl⟩)
    refine ⟨.string r, ?_, rfl, (hBw.setCell (p := ⟨w.heap.size + 1 + 1 + 1, 0, none⟩) (by simp; omega) _).trans (belowK_b (w := w) (Nat.le_refl _) _ D _ _ (by omega) hK' rfl rfl)⟩
    simp [results, Try.f80, go_sem, hc5]
  case stop =>
    rintro D c pre W hD ⟨k, hk, rfl⟩ ⟨⟨rfl, ini, last, e1, e2, e3, hcr⟩, hB⟩ hK
    have hf := HH.out
    unfold impl_Disk_read.f at hf
    rw [find_hit hk e1 e2 e3] at hf
    obtain rfl := Option.some.inj hf
    gi_wp2
    refine ⟨by simp, .inl ⟨_, _, rfl, run_takeDeferred hK, ?_⟩⟩
    have hc5 := cell_kept hcr (grownBy_putObj' _ D (.deferred none)) (fun r e => by cases e; exact ⟨_, hK, rfl⟩)
    refine ⟨.string last.2.f2, ?_, rfl, hB.trans (belowK_b (w := w) (Nat.le_refl _) W D _ _ (by omega) hK rfl rfl)⟩
    simp [results, Try.f80, go_sem, hc5]
theorem impl_Disk_read.calls (A0_0 : Option Addr) (c0_0 : Nat) (l0_0 : List ByteArray) (A0_1 : Option Addr) (c0_1 : Nat) (l0_1 : List S84) (a1 a2 : Int) (r : ByteArray) (w : World) (hr0_0 : Kd.C Kd.string w A0_0 l0_0.length l0_0) (hc0_0 : l0_0.length ≤ c0_0) (hr0_1 : Kd.C k84 w A0_1 l0_1.length l0_1) (hc0_1 : l0_1.length ≤ c0_1) (h : impl_Disk_read.f l0_0 l0_1 a1 a2 = some r) :
    Calls Try.prog 80 #[.agg #[.slice A0_0 l0_0.length c0_0, .slice A0_1 l0_1.length c0_1], .int .i64 a1, .int .i64 a2] w fun e W' => e = .returned (.string r) ∧ Below w.heap.size w W' :=
  (callsIn_wide (n := 3)).1 (read_in Fence.wide 3 trivial trivial trivial rfl (by omega) A0_0 c0_0 l0_0 A0_1 c0_1 l0_1 a1 a2 r w hr0_0 hr0_1 h)
end Go.Proofs.Ytpgiklbaoikogaa.Hand
