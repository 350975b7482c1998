/- The reference's draw of a block: it is its four draws, in their order; for every right source. -/
import Derived.Test.YtlclbdfcniiolaaQ3
import Derived.BigQuiet
import Derived.BigRegion
import Derived.RegionCalls
import Derived.Deep.RegionWith
import Derived.Deep.DrawnRows
namespace Go.Proofs.Ytlclbdfcniiolaa.Hand
open Go.RowKit Go.Proofs.YtlclbdfcniiolaaW.PrintWords Go.Proofs.YtlclbdfcniiolaaW.PrintLast Go.Proofs.YtlclbdfcniiolaaW.PrintMore Go.Proofs.Ytlclbdfcniiolaa.Q
set_option linter.unusedVariables false
set_option linter.unusedSimpArgs false
attribute [local go_sem ↓] Go.wp_at_zero Go.wp_at_succ
/-! what is kept while the block is drawn: the result's block gb, the source; the made slice; the variable's block -/
def BkS (w0 w W : World) (g : Nat) (l : List Int) (a s : Int) (gb : Nat) : Prop := W.heap[gb]? = some (.cells #[.int .i64 0, .int .i64 0, .int .i64 0, .int .i64 0] 53 (0, 0)) ∧ IsS87 w0 W g l a s ∧ KeepBut w W g none ∧ Below w0.heap.size w0 W
def BkA (w W : World) (y : List Int) (x : Addr × Nat) : Prop := Kd.R (Kd.int .i64) 3 W w.heap.size (fun _ => True) (.slice (some x.1) 2 x.2) y
def BkB (w0 w W : World) (g gb b : Nat) (cs : Array Value) : Prop := W.heap[b]? = some (.cells cs 53 (0, 0)) ∧ w.heap.size ≤ b ∧ w0.heap.size ≤ b ∧ g ≠ b ∧ b ≠ gb
def BkE (w0 w W : World) (g : Nat) (l : List Int) (a s : Int) (cs : Array Value) : Prop := W.heap[w.heap.size]? = some (.cells cs 53 (0, 0)) ∧ IsS87 w0 W g l a s ∧ Below w0.heap.size w0 W ∧ KeepBut w W g none
section
variable {w0 w W W' : World} {g gb b : Nat} {l y : List Int} {a s a' s' : Int} {x : Addr × Nat} {cs : Array Value}
theorem BkE.heap (h : BkE w0 w W g l a s cs) : W.heap[w.heap.size]? = some (.cells cs 53 (0, 0)) := h.1
theorem BkS.src (h : BkS w0 w W g l a s gb) : IsS87 w0 W g l a s := h.2.1
theorem BkS.bel (h : BkS w0 w W g l a s gb) : Below w0.heap.size w0 W := h.2.2.2
theorem BkS.call (h : BkS w0 w W g l a s gb) (hi : IsS87 w0 W' g l a' s') (hb : Below w0.heap.size w0 W') (hk : KeepBut W W' g none) (hne : gb ≠ g) : BkS w0 w W' g l a' s' gb := ⟨KeepBut.blk hk h.1 hne (by simp), hi, KeepBut.trans h.2.2.1 hk (.inl rfl), hb⟩
theorem BkS.make (h : BkS w0 w W g l a s gb) (hb : Below W.heap.size W W') : BkS w0 w W' g l a s gb := ⟨blk_below h.1 hb, IsS87.below h.2.1 hb, KeepBut.trans h.2.2.1 (KeepBut.of_below hb g none) (.inl rfl), below_step h.2.2.2 hb⟩
theorem BkA.call (h : BkA w W y x) (hS : BkS w0 w W g l a s gb) (hk : KeepBut W W' g none) : BkA w W' y x := Kd.R_mono (Kd.R_keep (IsS87.apart hS.2.1 h (by decide)) hk (fun _ h => h.2)) (fun _ h => h.1)
theorem BkA.make (h : BkA w W y x) (hb : Below W.heap.size W W') : BkA w W' y x := Kd.R_below h hb
theorem BkB.call (h : BkB w0 w W g gb b cs) (hk : KeepBut W W' g none) : BkB w0 w W' g gb b cs := ⟨KeepBut.blk hk h.1 (Ne.symm h.2.2.2.1) (by simp), h.2⟩
theorem BkB.make (h : BkB w0 w W g gb b cs) (hb : Below W.heap.size W W') : BkB w0 w W' g gb b cs := ⟨blk_below h.1 hb, h.2⟩
theorem BkB.new (hS : BkS w0 w W g l a s gb) (hw : w0.heap.size ≤ w.heap.size) (hg : b = W.heap.size) (hbox : W'.heap[b]? = some (.cells cs 53 (0, 0))) : BkB w0 w W' g gb b cs := by
  have h1 := keep_size hS.2.2.1
  have h2 := IsS87.lt hS.2.1
  have h3 := blk_lt hS.1
  exact ⟨hbox, by omega, by omega, by omega, by omega⟩
theorem BkA.new {v : Value} (ho : Kd.R (Kd.int .i64) 3 W' W.heap.size (fun _ => True) v [0, s']) (hS : BkS w0 w W g l a s gb) : ∃ x : Addr × Nat, v = .slice (some x.1) 2 x.2 ∧ BkA w W' [0, s'] x := by
  obtain ⟨A, c, rfl⟩ := Kd.R_slice ho
  obtain ⟨ad, hA, _⟩ := Kd.at_int (Kd.R_reads' ho).2.2 0 (by decide) (by simp)
  subst hA
  exact ⟨(ad, c), rfl, Kd.R_lower ho (keep_size hS.2.2.1)⟩
theorem BkA.cell (h : BkA w W y x) (hy : y.length = 2) (q : Int) (h0 : 0 ≤ q) (h1 : q < 2) : W.cell? (x.1.add q.toNat) = some (.int .i64 (rd y q)) := by
  obtain ⟨ad, hA, hc⟩ := Kd.at_int (Kd.R_reads' h).2.2 q h0 (by omega)
  injection hA with hA
  rw [hA]
  exact hc
theorem BkS.put (h : BkS w0 w W g l a s gb) (hb : BkB w0 w W g gb b cs) (j : Nat) (u : Value) : BkS w0 w (W.setCell ⟨b, j, none⟩ u) g l a s gb := ⟨blk_far h.1 (Ne.symm hb.2.2.2.2) u, IsS87.far h.2.1 hb.2.2.2.1 u, keep_far h.2.2.1 hb.2.1 u, below_set h.2.2.2 hb.2.2.1⟩
theorem BkB.put {cs' : Array Value} (hb : BkB w0 w W g gb b cs) (j : Nat) (u : Value) (e : cs.setIfInBounds j u = cs') : BkB w0 w (W.setCell ⟨b, j, none⟩ u) g gb b cs' := ⟨blk_put hb.1 j u e, hb.2⟩
theorem BkB.stored {x0 x1 x2 x3 y0 y1 y2 y3 : Value} (hb : BkB w0 w W g gb b #[y0, y1, y2, y3]) : BkB w0 w ((((W.setCell ⟨b, 0, none⟩ x0).setCell ⟨b, 1, none⟩ x1).setCell ⟨b, 2, none⟩ x2).setCell ⟨b, 3, none⟩ x3) g gb b #[x0, x1, x2, x3] := (((hb.put (cs' := #[x0, y1, y2, y3]) 0 x0 rfl).put (cs' := #[x0, x1, y2, y3]) 1 x1 rfl).put (cs' := #[x0, x1, x2, y3]) 2 x2 rfl).put (cs' := #[x0, x1, x2, x3]) 3 x3 rfl
theorem BkS.stored {x0 x1 x2 x3 y0 y1 y2 y3 : Value} (h : BkS w0 w W g l a s gb) (hb : BkB w0 w W g gb b #[y0, y1, y2, y3]) : BkS w0 w ((((W.setCell ⟨b, 0, none⟩ x0).setCell ⟨b, 1, none⟩ x1).setCell ⟨b, 2, none⟩ x2).setCell ⟨b, 3, none⟩ x3) g l a s gb :=
  (((h.put hb 0 x0).put (hb.put (cs' := #[x0, y1, y2, y3]) 0 x0 rfl) 1 x1).put ((hb.put (cs' := #[x0, y1, y2, y3]) 0 x0 rfl).put (cs' := #[x0, x1, y2, y3]) 1 x1 rfl) 2 x2).put (((hb.put (cs' := #[x0, y1, y2, y3]) 0 x0 rfl).put (cs' := #[x0, x1, y2, y3]) 1 x1 rfl).put (cs' := #[x0, x1, x2, y3]) 2 x2 rfl) 3 x3
/-- The result's block is written, and the draw is at its end. -/
theorem BkS.ended {x0 x1 x2 x3 : Value} (h : BkS w0 w W g l a s w.heap.size) (hw : w0.heap.size ≤ w.heap.size) (hne : g ≠ w.heap.size) : BkE w0 w ((((W.setCell ⟨w.heap.size, 0, none⟩ x0).setCell ⟨w.heap.size, 1, none⟩ x1).setCell ⟨w.heap.size, 2, none⟩ x2).setCell ⟨w.heap.size, 3, none⟩ x3) g l a s #[x0, x1, x2, x3] :=
  ⟨blk_put (cs := #[x0, x1, x2, .int .i64 0]) (blk_put (cs := #[x0, x1, .int .i64 0, .int .i64 0]) (blk_put (cs := #[x0, .int .i64 0, .int .i64 0, .int .i64 0]) (blk_put h.1 0 x0 rfl) 1 x1 rfl) 2 x2 rfl) 3 x3 rfl,
   IsS87.far (IsS87.far (IsS87.far (IsS87.far h.2.1 hne x0) hne x1) hne x2) hne x3, below_set (below_set (below_set (below_set h.2.2.2 hw) hw) hw) hw, keep_far (keep_far (keep_far (keep_far h.2.2.1 (Nat.le_refl _) x0) (Nat.le_refl _) x1) (Nat.le_refl _) x2) (Nat.le_refl _) x3⟩
end
def spec_l00Src_block.f (s0_0 : List Int) (s0_1 : Int) (s0_2 : Int) : Option (Int × Int × Int × Int × Int × Int) := (spec_l00Src_next.f s0_0 s0_1 s0_2 3).bind fun b1 => (spec_l00Src_next.f s0_0 b1.2.1 b1.2.2 2).bind fun b2 => if 0 ≤ b2.1 ∧ b2.1 < 2 then (spec_l00Src_next.f s0_0 b2.2.1 b2.2.2 12).bind fun b3 => (spec_l00Src_next.f s0_0 b3.2.1 b3.2.2 (wrap64 (b3.1 + 1))).bind fun b4 => if b4.1 > 0 then (spec_l00Src_next.f s0_0 b4.2.1 b4.2.2 9).bind fun b5 => some (rd [0, b1.1] b2.1, b3.1, b4.1, b5.1, b5.2.1, b5.2.2) else some (rd [0, b1.1] b2.1, b3.1, b4.1, 0, b4.2.1, b4.2.2) else none
def spec_l00Src_block.T1 : Bool × List (List Nat × List Nat) := (true, [([], []), ([0], [0]), ([1], [1]), ([], []), ([3, 1], [3]), ([2, 4], [2, 4]), ([5], [5]), ([], []), ([7, 4], [7]), ([6, 8], [6, 8]), ([], []), ([10, 9, 8, 0, 1, 2, 3, 4, 5, 6, 7, 8, 9, 10], [9, 10])])
def spec_l00Src_block.B1 : List Nat := [0, 1, 3, 0, 11, 31, 63, 0, 155, 511, 0, 2047]
theorem spec_l00Src_block.tab1 : rtab .any (opsOf Try.f72 1) = spec_l00Src_block.T1 := by kernel_rfl
theorem spec_l00Src_block.bits1 : waitsOk spec_l00Src_block.T1.2 spec_l00Src_block.B1 = true := by kernel_rfl
set_option maxHeartbeats 8000000 in
set_option maxRecDepth 100000 in
theorem spec_l00Src_block.calls (g : Nat) (s0_0 : List Int) (s0_1 : Int) (s0_2 : Int) (r1 : Int) (r2 : Int) (r3 : Int) (r4 : Int) (r5 : Int) (r6 : Int) (w0 w : World) (hI : IsS87 w0 w g s0_0 s0_1 s0_2) (hB : Below w0.heap.size w0 w) (h : spec_l00Src_block.f s0_0 s0_1 s0_2 = some (r1, r2, r3, r4, r5, r6)) :
    Calls Try.prog 72 #[.pointer (some ⟨g, 0, none⟩)] w fun e w' => e = .returned (.agg #[.int .i64 r1, .int .i64 r2, .int .i64 r3, .int .i64 r4]) ∧ IsS87 w0 w' g s0_0 r5 r6 ∧ Below w0.heap.size w0 w' ∧ KeepBut w w' g none := by
  have hu53 := Try.underlying53
  have HW0 := Aside0.mk hB.size
  have HI := Aside0.mk hI
  have HBW := Aside0.mk hB
  clear hI hB
  unfold spec_l00Src_block.f at h
  obtain ⟨⟨t, a1, s1⟩, e1, h⟩ := Option.bind_eq_some_iff.mp h
  obtain ⟨⟨q, a2, s2⟩, e2, h⟩ := Option.bind_eq_some_iff.mp h
  dsimp only at h e1 e2
  by_cases cq : 0 ≤ q ∧ q < 2
  rotate_left
  · rw [if_neg cq] at h; cases h
  rw [if_pos cq] at h
  obtain ⟨⟨m, a3, s3⟩, e3, h⟩ := Option.bind_eq_some_iff.mp h
  obtain ⟨⟨bal, a4, s4⟩, e4, h⟩ := Option.bind_eq_some_iff.mp h
  dsimp only at h e3 e4
  have A1 := Aside0.mk e1
  have A2 := Aside0.mk e2
  have A3 := Aside0.mk e3
  have A4 := Aside0.mk e4
  have HH := Aside0.mk h
  clear e1 e2 e3 e4 h
  obtain ⟨cq0, cq1⟩ := cq
  obtain ⟨y, hy⟩ : ∃ y : List Int, y = [0, t] := ⟨_, rfl⟩
  have NY := Aside0.mk hy
  have LY : Aside0 (y.length = 2) := ⟨by rw [hy]; rfl⟩
  obtain ⟨v, hv⟩ : ∃ v, rd y q = v := ⟨_, rfl⟩
  have NV := Aside0.mk hv
  clear hy hv
  have q0 : (0 ≤ q) = True := eq_true cq0
  have q1 : (q < (2 : Int)) = True := eq_true cq1
  have CQ := Aside0.mk (And.intro cq0 cq1)
  clear cq0 cq1
  go_enter Try.func72, Try.ntmps72
  go_upto_region 1 with fail
  have hsz : w.heap.size < (w.alloc (.cells #[.int .i64 0, .int .i64 0, .int .i64 0, .int .i64 0] 53)).heap.size := by simp
  have HS0 : Aside0 (BkS w0 w (w.alloc (.cells #[.int .i64 0, .int .i64 0, .int .i64 0, .int .i64 0] 53)).drew g s0_0 s0_1 s0_2 w.heap.size) := ⟨blk_drew (blk_new w _), IsS87.drew (IsS87.alloc HI.out _), keep_drew (keep_alloc (KeepBut.refl w g none) _), below_drew1 (below_alloc HBW.out _)⟩
  have NG : Aside0 (w.heap.size ≠ g) := ⟨Nat.ne_of_gt (IsS87.lt HI.out)⟩
  clear hsz
  go_cut [3] (fun v3 wx => ∃ b, v3 = .pointer (some ⟨b, 0, none⟩) ∧ Aside0 (BkS w0 w wx g s0_0 a3 s3 w.heap.size) ∧ Aside0 (BkB w0 w wx g w.heap.size b #[.int .i64 v, .int .i64 m, .int .i64 0, .int .i64 0]))
  case first =>
    refine start_ (n := 12) (S := fun w' => True) (ds := []) #[false, false, false, false, false, false, false, false, false, false, false, false] (by kernel_rfl) rfl rfl trivial (fun hHeld => ?_)
    refine with_tabW spec_l00Src_block.tab1 spec_l00Src_block.bits1 (fun HT_ HW_ => ?_)
    clear hHeld
    generalize (w.alloc (.cells #[.int .i64 0, .int .i64 0, .int .i64 0, .int .i64 0] 53)).drew = w11 at HS0 ⊢
    refine pure_ (i := 0) (N := some 4) (v := ?_) (a' := ?_) #[true, false, false, false, false, false, false, false, false, false, false, false] rfl rfl (any_of HT_.out (by kernel_rfl)) (fun _ _ _ h => h) (Or.inl ⟨by rfl, ?_⟩) ?_ ?_
    rotate_left
    · intro w'
      go_simp
      with_reducible rfl
    rotate_left
    · simp only [putAll, Act.put, List.setIfInBounds_toArray, List.set_cons_zero, List.set_cons_succ, i64_w, i32_w]
      rfl
    refine pure_ (i := 3) (N := some 7) (v := ?_) (a' := ?_) #[true, false, false, true, false, false, false, false, false, false, false, false] rfl rfl (any_of HT_.out (by kernel_rfl)) (fun _ _ _ h => h) (Or.inl ⟨by rfl, ?_⟩) ?_ ?_
    rotate_left
    · intro w'
      go_simp
      with_reducible rfl
    rotate_left
    · simp only [putAll, Act.put, List.setIfInBounds_toArray, List.set_cons_zero, List.set_cons_succ, i64_w, i32_w]
      rfl
    refine pure_ (i := 7) (N := some 11) (v := ?_) (a' := ?_) #[true, false, false, true, false, false, false, true, false, false, false, false] rfl rfl (any_of HT_.out (by kernel_rfl)) (fun _ _ _ h => h) (Or.inl ⟨by rfl, ?_⟩) ?_ ?_
    rotate_left
    · intro w'
      go_simp
      with_reducible rfl
    rotate_left
    · simp only [putAll, Act.put, List.setIfInBounds_toArray, List.set_cons_zero, List.set_cons_succ, i64_w, i32_w]
      rfl
    refine join_ (σ := (Addr × Nat) × Nat) 1 #[true, true, true, true, true, true, true, true, true, true, true, false] (fun s_ => [(5, .int .i64 t), (6, .slice (some s_.1.1) 2 s_.1.2), (8, .int .i64 q), (10, .int .i64 v), (12, .int .i64 m), (3, .pointer (some ⟨s_.2, 0, none⟩)), (9, .pointer (some (s_.1.1.add q.toNat))), (13, .agg #[.int .i64 v, .int .i64 m, .int .i64 0, .int .i64 0])]) (fun s_ w' => BkS w0 w w' g s0_0 a3 s3 w.heap.size ∧ BkA w w' y s_.1 ∧ BkB w0 w w' g w.heap.size s_.2 #[.int .i64 0, .int .i64 0, .int .i64 0, .int .i64 0]) ?_ ?_
    rotate_left
    · intro hJ1_2_4_6_8_10
      refine join_ (σ := Addr × Nat) 2 #[true, true, true, true, true, true, true, true, true, true, false, false] (fun s_ => [(5, .int .i64 t), (6, .slice (some s_.1) 2 s_.2), (8, .int .i64 q), (10, .int .i64 v), (12, .int .i64 m), (9, .pointer (some (s_.1.add q.toNat))), (13, .agg #[.int .i64 v, .int .i64 m, .int .i64 0, .int .i64 0])]) (fun s_ w' => BkS w0 w w' g s0_0 a3 s3 w.heap.size ∧ BkA w w' y s_) ?_ ?_
      rotate_left
      · intro hJ1_2_4_6_8
        refine join_ (σ := (Addr × Nat) × Nat) 3 #[true, true, true, true, true, true, true, true, false, false, true, false] (fun s_ => [(5, .int .i64 t), (6, .slice (some s_.1.1) 2 s_.1.2), (8, .int .i64 q), (10, .int .i64 v), (3, .pointer (some ⟨s_.2, 0, none⟩)), (9, .pointer (some (s_.1.1.add q.toNat)))]) (fun s_ w' => BkS w0 w w' g s0_0 a2 s2 w.heap.size ∧ BkA w w' y s_.1 ∧ BkB w0 w w' g w.heap.size s_.2 #[.int .i64 0, .int .i64 0, .int .i64 0, .int .i64 0]) ?_ ?_
        rotate_left
        · intro hJ1_2_4_6_10
          refine join_ (σ := (Addr × Nat) × Nat) 3 #[true, true, true, true, true, true, false, true, true, false, true, false] (fun s_ => [(5, .int .i64 t), (6, .slice (some s_.1.1) 2 s_.1.2), (8, .int .i64 q), (12, .int .i64 m), (3, .pointer (some ⟨s_.2, 0, none⟩)), (9, .pointer (some (s_.1.1.add q.toNat)))]) (fun s_ w' => BkS w0 w w' g s0_0 a3 s3 w.heap.size ∧ BkA w w' y s_.1 ∧ BkB w0 w w' g w.heap.size s_.2 #[.int .i64 0, .int .i64 0, .int .i64 0, .int .i64 0]) ?_ ?_
          rotate_left
          · intro hJ1_2_4_8_10
            refine join_ (σ := Addr × Nat) 4 #[true, true, true, true, true, true, true, true, false, false, false, false] (fun s_ => [(5, .int .i64 t), (6, .slice (some s_.1) 2 s_.2), (8, .int .i64 q), (10, .int .i64 v), (9, .pointer (some (s_.1.add q.toNat)))]) (fun s_ w' => BkS w0 w w' g s0_0 a2 s2 w.heap.size ∧ BkA w w' y s_) ?_ ?_
            rotate_left
            · intro hJ1_2_4_6
              refine join_ (σ := Addr × Nat) 4 #[true, true, true, true, true, true, false, true, true, false, false, false] (fun s_ => [(5, .int .i64 t), (6, .slice (some s_.1) 2 s_.2), (8, .int .i64 q), (12, .int .i64 m), (9, .pointer (some (s_.1.add q.toNat)))]) (fun s_ w' => BkS w0 w w' g s0_0 a3 s3 w.heap.size ∧ BkA w w' y s_) ?_ ?_
              rotate_left
              · intro hJ1_2_4_8
                refine join_ (σ := (Addr × Nat) × Nat) 4 #[true, true, true, true, true, true, false, true, false, false, true, false] (fun s_ => [(5, .int .i64 t), (6, .slice (some s_.1.1) 2 s_.1.2), (8, .int .i64 q), (3, .pointer (some ⟨s_.2, 0, none⟩)), (9, .pointer (some (s_.1.1.add q.toNat)))]) (fun s_ w' => BkS w0 w w' g s0_0 a2 s2 w.heap.size ∧ BkA w w' y s_.1 ∧ BkB w0 w w' g w.heap.size s_.2 #[.int .i64 0, .int .i64 0, .int .i64 0, .int .i64 0]) ?_ ?_
                rotate_left
                · intro hJ1_2_4_10
                  refine join_ (σ := Nat) 5 #[true, true, false, true, true, false, false, true, true, false, true, false] (fun s_ => [(5, .int .i64 t), (8, .int .i64 q), (12, .int .i64 m), (3, .pointer (some ⟨s_, 0, none⟩))]) (fun s_ w' => BkS w0 w w' g s0_0 a3 s3 w.heap.size ∧ BkB w0 w w' g w.heap.size s_ #[.int .i64 0, .int .i64 0, .int .i64 0, .int .i64 0]) ?_ ?_
                  rotate_left
                  · intro hJ1_4_8_10
                    refine join_ (σ := Addr × Nat) 5 #[true, true, true, true, true, true, false, true, false, false, false, false] (fun s_ => [(5, .int .i64 t), (6, .slice (some s_.1) 2 s_.2), (8, .int .i64 q), (9, .pointer (some (s_.1.add q.toNat)))]) (fun s_ w' => BkS w0 w w' g s0_0 a2 s2 w.heap.size ∧ BkA w w' y s_) ?_ ?_
                    rotate_left
                    · intro hJ1_2_4
                      refine join_ (σ := (Addr × Nat) × Nat) 6 #[true, true, true, true, false, false, false, true, false, false, true, false] (fun s_ => [(5, .int .i64 t), (6, .slice (some s_.1.1) 2 s_.1.2), (3, .pointer (some ⟨s_.2, 0, none⟩))]) (fun s_ w' => BkS w0 w w' g s0_0 a1 s1 w.heap.size ∧ BkA w w' y s_.1 ∧ BkB w0 w w' g w.heap.size s_.2 #[.int .i64 0, .int .i64 0, .int .i64 0, .int .i64 0]) ?_ ?_
                      rotate_left
                      · intro hJ1_2_10
                        refine join_ (σ := Unit) 6 #[true, true, false, true, true, false, false, true, true, false, false, false] (fun s_ => [(5, .int .i64 t), (8, .int .i64 q), (12, .int .i64 m)]) (fun s_ w' => BkS w0 w w' g s0_0 a3 s3 w.heap.size) ?_ ?_
                        rotate_left
                        · intro hJ1_4_8
                          refine join_ (σ := Nat) 6 #[true, true, false, true, true, false, false, true, false, false, true, false] (fun s_ => [(5, .int .i64 t), (8, .int .i64 q), (3, .pointer (some ⟨s_, 0, none⟩))]) (fun s_ w' => BkS w0 w w' g s0_0 a2 s2 w.heap.size ∧ BkB w0 w w' g w.heap.size s_ #[.int .i64 0, .int .i64 0, .int .i64 0, .int .i64 0]) ?_ ?_
                          rotate_left
                          · intro hJ1_4_10
                            refine join_ (σ := Addr × Nat) 7 #[true, true, true, true, false, false, false, true, false, false, false, false] (fun s_ => [(5, .int .i64 t), (6, .slice (some s_.1) 2 s_.2)]) (fun s_ w' => BkS w0 w w' g s0_0 a1 s1 w.heap.size ∧ BkA w w' y s_) ?_ ?_
                            rotate_left
                            · intro hJ1_2
                              refine join_ (σ := Unit) 7 #[true, true, false, true, true, false, false, true, false, false, false, false] (fun s_ => [(5, .int .i64 t), (8, .int .i64 q)]) (fun s_ w' => BkS w0 w w' g s0_0 a2 s2 w.heap.size) ?_ ?_
                              rotate_left
                              · intro hJ1_4
                                refine join_ (σ := Nat) 7 #[true, true, false, true, false, false, false, true, false, false, true, false] (fun s_ => [(5, .int .i64 t), (3, .pointer (some ⟨s_, 0, none⟩))]) (fun s_ w' => BkS w0 w w' g s0_0 a1 s1 w.heap.size ∧ BkB w0 w w' g w.heap.size s_ #[.int .i64 0, .int .i64 0, .int .i64 0, .int .i64 0]) ?_ ?_
                                rotate_left
                                · intro hJ1_10
                                  refine join_ (σ := Unit) 8 #[true, true, false, true, false, false, false, true, false, false, false, false] (fun s_ => [(5, .int .i64 t)]) (fun s_ w' => BkS w0 w w' g s0_0 a1 s1 w.heap.size) ?_ ?_
                                  rotate_left
                                  · intro hJ1
                                    refine join_ (σ := Nat) 8 #[true, false, false, true, false, false, false, true, false, false, true, false] (fun s_ => [(3, .pointer (some ⟨s_, 0, none⟩))]) (fun s_ w' => BkS w0 w w' g s0_0 s0_1 s0_2 w.heap.size ∧ BkB w0 w w' g w.heap.size s_ #[.int .i64 0, .int .i64 0, .int .i64 0, .int .i64 0]) ?_ ?_
                                    rotate_left
                                    · intro hJ10
                                      have hs := HS0.out
                                      clear HS0
                                      refine two_ (i := 1) (j := 10) (Ni := some 5) (Nj := some 3) #[true, true, false, true, false, false, false, true, false, false, false, false] #[true, false, false, true, false, false, false, true, false, false, true, false] rfl rfl rfl rfl (two_of HT_.out (by kernel_rfl)) (by decide) (by decide) (fun K hK => ?_) (fun K hK => ?_)
                                      · skip
                                        refine goes_ Try.func70 (by kernel_rfl) rfl #[.pointer (some ⟨g, 0, none⟩), .int .i64 3] (by rfl) rfl rfl (by (try simp only [List.map_toArray, List.map_cons, List.map_nil]); first | done | rfl) ?_
                                        with_reducible refine (spec_l00Src_next.calls g s0_0 s0_1 s0_2 3 t a1 s1 w0 _ hs.src hs.bel A1.out).mono ?_
                                        rintro e w5 ⟨rfl, hi, hb, hk⟩
                                        refine ⟨_, rfl, ?_⟩
                                        refine hK.out _ _ trivial (fun hHeld => ?_)
                                        clear hK K
                                        refine norm_ (a' := ?_) ?_ ?_
                                        rotate_left
                                        · simp only [putAll, Act.put, List.setIfInBounds_toArray, List.set_cons_zero, List.set_cons_succ, i64_w, i32_w]
                                          rfl
                                        exact norm_ (by first | (simp only [putAll, Act.put, List.setIfInBounds_toArray, List.set_cons_zero, List.set_cons_succ, i64_w, i32_w]; done) | (simp only [putAll, Act.put, List.setIfInBounds_toArray, List.set_cons_zero, List.set_cons_succ, i64_w, i32_w]; rfl)) (hJ1 () _ (hs.call hi hb hk NG.out))
                                      · skip
                                        refine box_step ?hg (N := 3) ?hd (cs := #[.int .i64 0, .int .i64 0, .int .i64 0, .int .i64 0]) (t := 53) ?hr ?_; (case hd => rfl); (case hg => rfl); (case hr => first | (go_simp; done) | (go_simp; rfl))
                                        intro b5 hg w5 hbox hb
                                        refine hK.out _ _ trivial (fun hHeld => ?_)
                                        clear hK K
                                        refine norm_ (a' := ?_) ?_ ?_
                                        rotate_left
                                        · simp only [putAll, Act.put, List.setIfInBounds_toArray, List.set_cons_zero, List.set_cons_succ, i64_w, i32_w]
                                          rfl
                                        exact norm_ (by first | (simp only [putAll, Act.put, List.setIfInBounds_toArray, List.set_cons_zero, List.set_cons_succ, i64_w, i32_w]; done) | (simp only [putAll, Act.put, List.setIfInBounds_toArray, List.set_cons_zero, List.set_cons_succ, i64_w, i32_w]; rfl)) (hJ10 (b5) _ ⟨hs.make hb, BkB.new hs HW0.out hg hbox⟩)
                                    · rintro b4 w4 ⟨hs, hbx⟩
                                      clear HS0
                                      refine norm_ (a' := ?_) ?_ ?_
                                      rotate_left
                                      · try dsimp only
                                        simp only [putAll, Act.put, List.setIfInBounds_toArray, List.set_cons_zero, List.set_cons_succ, i64_w, i32_w]
                                        rfl
                                      refine one_ (i := 1) (N := some 5) #[true, true, false, true, false, false, false, true, false, false, true, false] rfl rfl (one_of HT_.out (by kernel_rfl)) (by decide) (fun K hK => ?_)
                                      refine goes_ Try.func70 (by kernel_rfl) rfl #[.pointer (some ⟨g, 0, none⟩), .int .i64 3] (by rfl) rfl rfl (by (try simp only [List.map_toArray, List.map_cons, List.map_nil]); first | done | rfl) ?_
                                      with_reducible refine (spec_l00Src_next.calls g s0_0 s0_1 s0_2 3 t a1 s1 w0 _ hs.src hs.bel A1.out).mono ?_
                                      rintro e w5 ⟨rfl, hi, hb, hk⟩
                                      refine ⟨_, rfl, ?_⟩
                                      refine hK.out _ _ trivial (fun hHeld => ?_)
                                      clear hK K
                                      refine norm_ (a' := ?_) ?_ ?_
                                      rotate_left
                                      · simp only [putAll, Act.put, List.setIfInBounds_toArray, List.set_cons_zero, List.set_cons_succ, i64_w, i32_w]
                                        rfl
                                      exact norm_ (by first | (simp only [putAll, Act.put, List.setIfInBounds_toArray, List.set_cons_zero, List.set_cons_succ, i64_w, i32_w]; done) | (simp only [putAll, Act.put, List.setIfInBounds_toArray, List.set_cons_zero, List.set_cons_succ, i64_w, i32_w]; rfl)) (hJ1_10 (b4) _ ⟨hs.call hi hb hk NG.out, hbx.call hk⟩)
                                  · rintro u_ w4 hs
                                    clear HS0
                                    refine norm_ (a' := ?_) ?_ ?_
                                    rotate_left
                                    · try dsimp only
                                      simp only [putAll, Act.put, List.setIfInBounds_toArray, List.set_cons_zero, List.set_cons_succ, i64_w, i32_w]
                                      rfl
                                    refine three_ (i := 2) (j := 4) (k := 10) (Ni := some 6) (Nj := some 8) (Nk := some 3) #[true, true, true, true, false, false, false, true, false, false, false, false] #[true, true, false, true, true, false, false, true, false, false, false, false] #[true, true, false, true, false, false, false, true, false, false, true, false] rfl rfl rfl rfl rfl rfl (three_of HT_.out (by kernel_rfl)) (by decide) (by decide) (by decide) (fun K hK => ?_) (fun K hK => ?_) (fun K hK => ?_)
                                    · skip
                                      refine Kd.R_lit_step (Kd.int .i64) _ 3 ?hg (N := 6) ?hd (xs := ([0, t] : List Int)) (inner := [.int .i64 0, .int .i64 t]) (ok := fun _ => True) (okp := fun _ => True) ?hr ?hp (fun _ hk => hk) trivial (Below.refl _ _) (Nat.le_refl _) (by simp) ?_; (case hd => rfl); (case hg => rfl); (case hr => first | (go_simp; done) | (go_simp; rfl)); (case hp => exact (Reps.one (show Kd.M (Kd.int .i64) _ _ _ 0 [.int .i64 0] from rfl) (Reps.one (show Kd.M (Kd.int .i64) _ _ _ t [.int .i64 t] from rfl) (Reps.none _ _))))
                                      intro va w5 ho hb hg_ hnew_
                                      clear hg_ hnew_
                                      obtain ⟨x, rfl, hA⟩ := BkA.new ho hs
                                      rw [← NY.out] at hA
                                      clear ho
                                      refine hK.out _ _ trivial (fun hHeld => ?_)
                                      clear hK K
                                      refine norm_ (a' := ?_) ?_ ?_
                                      rotate_left
                                      · simp only [putAll, Act.put, List.setIfInBounds_toArray, List.set_cons_zero, List.set_cons_succ, i64_w, i32_w]
                                        rfl
                                      exact norm_ (by first | (simp only [putAll, Act.put, List.setIfInBounds_toArray, List.set_cons_zero, List.set_cons_succ, i64_w, i32_w]; done) | (simp only [putAll, Act.put, List.setIfInBounds_toArray, List.set_cons_zero, List.set_cons_succ, i64_w, i32_w]; rfl)) (hJ1_2 (x) _ ⟨hs.make hb, hA⟩)
                                    · skip
                                      refine goes_ Try.func70 (by kernel_rfl) rfl #[.pointer (some ⟨g, 0, none⟩), .int .i64 2] (by rfl) rfl rfl (by (try simp only [List.map_toArray, List.map_cons, List.map_nil]); first | done | rfl) ?_
                                      with_reducible refine (spec_l00Src_next.calls g s0_0 a1 s1 2 q a2 s2 w0 _ hs.src hs.bel A2.out).mono ?_
                                      rintro e w5 ⟨rfl, hi, hb, hk⟩
                                      refine ⟨_, rfl, ?_⟩
                                      refine hK.out _ _ trivial (fun hHeld => ?_)
                                      clear hK K
                                      refine norm_ (a' := ?_) ?_ ?_
                                      rotate_left
                                      · simp only [putAll, Act.put, List.setIfInBounds_toArray, List.set_cons_zero, List.set_cons_succ, i64_w, i32_w]
                                        rfl
                                      exact norm_ (by first | (simp only [putAll, Act.put, List.setIfInBounds_toArray, List.set_cons_zero, List.set_cons_succ, i64_w, i32_w]; done) | (simp only [putAll, Act.put, List.setIfInBounds_toArray, List.set_cons_zero, List.set_cons_succ, i64_w, i32_w]; rfl)) (hJ1_4 () _ (hs.call hi hb hk NG.out))
                                    · skip
                                      refine box_step ?hg (N := 3) ?hd (cs := #[.int .i64 0, .int .i64 0, .int .i64 0, .int .i64 0]) (t := 53) ?hr ?_; (case hd => rfl); (case hg => rfl); (case hr => first | (go_simp; done) | (go_simp; rfl))
                                      intro b5 hg w5 hbox hb
                                      refine hK.out _ _ trivial (fun hHeld => ?_)
                                      clear hK K
                                      refine norm_ (a' := ?_) ?_ ?_
                                      rotate_left
                                      · simp only [putAll, Act.put, List.setIfInBounds_toArray, List.set_cons_zero, List.set_cons_succ, i64_w, i32_w]
                                        rfl
                                      exact norm_ (by first | (simp only [putAll, Act.put, List.setIfInBounds_toArray, List.set_cons_zero, List.set_cons_succ, i64_w, i32_w]; done) | (simp only [putAll, Act.put, List.setIfInBounds_toArray, List.set_cons_zero, List.set_cons_succ, i64_w, i32_w]; rfl)) (hJ1_10 (b5) _ ⟨hs.make hb, BkB.new hs HW0.out hg hbox⟩)
                                · rintro b4 w4 ⟨hs, hbx⟩
                                  clear HS0
                                  refine norm_ (a' := ?_) ?_ ?_
                                  rotate_left
                                  · try dsimp only
                                    simp only [putAll, Act.put, List.setIfInBounds_toArray, List.set_cons_zero, List.set_cons_succ, i64_w, i32_w]
                                    rfl
                                  refine two_ (i := 2) (j := 4) (Ni := some 6) (Nj := some 8) #[true, true, true, true, false, false, false, true, false, false, true, false] #[true, true, false, true, true, false, false, true, false, false, true, false] rfl rfl rfl rfl (two_of HT_.out (by kernel_rfl)) (by decide) (by decide) (fun K hK => ?_) (fun K hK => ?_)
                                  · skip
                                    refine Kd.R_lit_step (Kd.int .i64) _ 3 ?hg (N := 6) ?hd (xs := ([0, t] : List Int)) (inner := [.int .i64 0, .int .i64 t]) (ok := fun _ => True) (okp := fun _ => True) ?hr ?hp (fun _ hk => hk) trivial (Below.refl _ _) (Nat.le_refl _) (by simp) ?_; (case hd => rfl); (case hg => rfl); (case hr => first | (go_simp; done) | (go_simp; rfl)); (case hp => exact (Reps.one (show Kd.M (Kd.int .i64) _ _ _ 0 [.int .i64 0] from rfl) (Reps.one (show Kd.M (Kd.int .i64) _ _ _ t [.int .i64 t] from rfl) (Reps.none _ _))))
                                    intro va w5 ho hb hg_ hnew_
                                    clear hg_ hnew_
                                    obtain ⟨x, rfl, hA⟩ := BkA.new ho hs
                                    rw [← NY.out] at hA
                                    clear ho
                                    refine hK.out _ _ trivial (fun hHeld => ?_)
                                    clear hK K
                                    refine norm_ (a' := ?_) ?_ ?_
                                    rotate_left
                                    · simp only [putAll, Act.put, List.setIfInBounds_toArray, List.set_cons_zero, List.set_cons_succ, i64_w, i32_w]
                                      rfl
                                    exact norm_ (by first | (simp only [putAll, Act.put, List.setIfInBounds_toArray, List.set_cons_zero, List.set_cons_succ, i64_w, i32_w]; done) | (simp only [putAll, Act.put, List.setIfInBounds_toArray, List.set_cons_zero, List.set_cons_succ, i64_w, i32_w]; rfl)) (hJ1_2_10 ((x, b4)) _ ⟨hs.make hb, hA, hbx.make hb⟩)
                                  · skip
                                    refine goes_ Try.func70 (by kernel_rfl) rfl #[.pointer (some ⟨g, 0, none⟩), .int .i64 2] (by rfl) rfl rfl (by (try simp only [List.map_toArray, List.map_cons, List.map_nil]); first | done | rfl) ?_
                                    with_reducible refine (spec_l00Src_next.calls g s0_0 a1 s1 2 q a2 s2 w0 _ hs.src hs.bel A2.out).mono ?_
                                    rintro e w5 ⟨rfl, hi, hb, hk⟩
                                    refine ⟨_, rfl, ?_⟩
                                    refine hK.out _ _ trivial (fun hHeld => ?_)
                                    clear hK K
                                    refine norm_ (a' := ?_) ?_ ?_
                                    rotate_left
                                    · simp only [putAll, Act.put, List.setIfInBounds_toArray, List.set_cons_zero, List.set_cons_succ, i64_w, i32_w]
                                      rfl
                                    exact norm_ (by first | (simp only [putAll, Act.put, List.setIfInBounds_toArray, List.set_cons_zero, List.set_cons_succ, i64_w, i32_w]; done) | (simp only [putAll, Act.put, List.setIfInBounds_toArray, List.set_cons_zero, List.set_cons_succ, i64_w, i32_w]; rfl)) (hJ1_4_10 (b4) _ ⟨hs.call hi hb hk NG.out, hbx.call hk⟩)
                              · rintro u_ w4 hs
                                clear HS0
                                refine norm_ (a' := ?_) ?_ ?_
                                rotate_left
                                · try dsimp only
                                  simp only [putAll, Act.put, List.setIfInBounds_toArray, List.set_cons_zero, List.set_cons_succ, i64_w, i32_w]
                                  rfl
                                refine three_ (i := 2) (j := 8) (k := 10) (Ni := some 6) (Nj := some 12) (Nk := some 3) #[true, true, true, true, true, false, false, true, false, false, false, false] #[true, true, false, true, true, false, false, true, true, false, false, false] #[true, true, false, true, true, false, false, true, false, false, true, false] rfl rfl rfl rfl rfl rfl (three_of HT_.out (by kernel_rfl)) (by decide) (by decide) (by decide) (fun K hK => ?_) (fun K hK => ?_) (fun K hK => ?_)
                                · skip
                                  refine Kd.R_lit_step (Kd.int .i64) _ 3 ?hg (N := 6) ?hd (xs := ([0, t] : List Int)) (inner := [.int .i64 0, .int .i64 t]) (ok := fun _ => True) (okp := fun _ => True) ?hr ?hp (fun _ hk => hk) trivial (Below.refl _ _) (Nat.le_refl _) (by simp) ?_; (case hd => rfl); (case hg => rfl); (case hr => first | (go_simp; done) | (go_simp; rfl)); (case hp => exact (Reps.one (show Kd.M (Kd.int .i64) _ _ _ 0 [.int .i64 0] from rfl) (Reps.one (show Kd.M (Kd.int .i64) _ _ _ t [.int .i64 t] from rfl) (Reps.none _ _))))
                                  intro va w5 ho hb hg_ hnew_
                                  clear hg_ hnew_
                                  obtain ⟨x, rfl, hA⟩ := BkA.new ho hs
                                  rw [← NY.out] at hA
                                  clear ho
                                  refine hK.out _ _ trivial (fun hHeld => ?_)
                                  clear hK K
                                  refine norm_ (a' := ?_) ?_ ?_
                                  rotate_left
                                  · simp only [putAll, Act.put, List.setIfInBounds_toArray, List.set_cons_zero, List.set_cons_succ, i64_w, i32_w]
                                    rfl
                                  refine pure_ (i := 5) (N := some 9) (v := ?_) (a' := ?_) #[true, true, true, true, true, true, false, true, false, false, false, false] rfl rfl (any_of HT_.out (by kernel_rfl)) (fun _ _ _ h => h) (Or.inl ⟨by rfl, ?_⟩) ?_ ?_
                                  rotate_left
                                  · intro w'
                                    go_simp
                                    with_reducible rfl
                                  rotate_left
                                  · simp only [putAll, Act.put, List.setIfInBounds_toArray, List.set_cons_zero, List.set_cons_succ, i64_w, i32_w]
                                    rfl
                                  exact norm_ (by first | (simp only [putAll, Act.put, List.setIfInBounds_toArray, List.set_cons_zero, List.set_cons_succ, i64_w, i32_w]; done) | (simp only [putAll, Act.put, List.setIfInBounds_toArray, List.set_cons_zero, List.set_cons_succ, i64_w, i32_w]; rfl)) (hJ1_2_4 (x) _ ⟨hs.make hb, hA⟩)
                                · skip
                                  refine goes_ Try.func70 (by kernel_rfl) rfl #[.pointer (some ⟨g, 0, none⟩), .int .i64 12] (by rfl) rfl rfl (by (try simp only [List.map_toArray, List.map_cons, List.map_nil]); first | done | rfl) ?_
                                  with_reducible refine (spec_l00Src_next.calls g s0_0 a2 s2 12 m a3 s3 w0 _ hs.src hs.bel A3.out).mono ?_
                                  rintro e w5 ⟨rfl, hi, hb, hk⟩
                                  refine ⟨_, rfl, ?_⟩
                                  refine hK.out _ _ trivial (fun hHeld => ?_)
                                  clear hK K
                                  refine norm_ (a' := ?_) ?_ ?_
                                  rotate_left
                                  · simp only [putAll, Act.put, List.setIfInBounds_toArray, List.set_cons_zero, List.set_cons_succ, i64_w, i32_w]
                                    rfl
                                  exact norm_ (by first | (simp only [putAll, Act.put, List.setIfInBounds_toArray, List.set_cons_zero, List.set_cons_succ, i64_w, i32_w]; done) | (simp only [putAll, Act.put, List.setIfInBounds_toArray, List.set_cons_zero, List.set_cons_succ, i64_w, i32_w]; rfl)) (hJ1_4_8 () _ (hs.call hi hb hk NG.out))
                                · skip
                                  refine box_step ?hg (N := 3) ?hd (cs := #[.int .i64 0, .int .i64 0, .int .i64 0, .int .i64 0]) (t := 53) ?hr ?_; (case hd => rfl); (case hg => rfl); (case hr => first | (go_simp; done) | (go_simp; rfl))
                                  intro b5 hg w5 hbox hb
                                  refine hK.out _ _ trivial (fun hHeld => ?_)
                                  clear hK K
                                  refine norm_ (a' := ?_) ?_ ?_
                                  rotate_left
                                  · simp only [putAll, Act.put, List.setIfInBounds_toArray, List.set_cons_zero, List.set_cons_succ, i64_w, i32_w]
                                    rfl
                                  exact norm_ (by first | (simp only [putAll, Act.put, List.setIfInBounds_toArray, List.set_cons_zero, List.set_cons_succ, i64_w, i32_w]; done) | (simp only [putAll, Act.put, List.setIfInBounds_toArray, List.set_cons_zero, List.set_cons_succ, i64_w, i32_w]; rfl)) (hJ1_4_10 (b5) _ ⟨hs.make hb, BkB.new hs HW0.out hg hbox⟩)
                            · rintro ⟨x1, x2⟩ w4 ⟨hs, hA⟩
                              clear HS0
                              refine norm_ (a' := ?_) ?_ ?_
                              rotate_left
                              · try dsimp only
                                simp only [putAll, Act.put, List.setIfInBounds_toArray, List.set_cons_zero, List.set_cons_succ, i64_w, i32_w]
                                rfl
                              refine two_ (i := 4) (j := 10) (Ni := some 8) (Nj := some 3) #[true, true, true, true, true, false, false, true, false, false, false, false] #[true, true, true, true, false, false, false, true, false, false, true, false] rfl rfl rfl rfl (two_of HT_.out (by kernel_rfl)) (by decide) (by decide) (fun K hK => ?_) (fun K hK => ?_)
                              · skip
                                refine goes_ Try.func70 (by kernel_rfl) rfl #[.pointer (some ⟨g, 0, none⟩), .int .i64 2] (by rfl) rfl rfl (by (try simp only [List.map_toArray, List.map_cons, List.map_nil]); first | done | rfl) ?_
                                with_reducible refine (spec_l00Src_next.calls g s0_0 a1 s1 2 q a2 s2 w0 _ hs.src hs.bel A2.out).mono ?_
                                rintro e w5 ⟨rfl, hi, hb, hk⟩
                                refine ⟨_, rfl, ?_⟩
                                refine hK.out _ _ trivial (fun hHeld => ?_)
                                clear hK K
                                refine norm_ (a' := ?_) ?_ ?_
                                rotate_left
                                · simp only [putAll, Act.put, List.setIfInBounds_toArray, List.set_cons_zero, List.set_cons_succ, i64_w, i32_w]
                                  rfl
                                refine pure_ (i := 5) (N := some 9) (v := ?_) (a' := ?_) #[true, true, true, true, true, true, false, true, false, false, false, false] rfl rfl (any_of HT_.out (by kernel_rfl)) (fun _ _ _ h => h) (Or.inl ⟨by rfl, ?_⟩) ?_ ?_
                                rotate_left
                                · intro w'
                                  go_simp
                                  with_reducible rfl
                                rotate_left
                                · simp only [putAll, Act.put, List.setIfInBounds_toArray, List.set_cons_zero, List.set_cons_succ, i64_w, i32_w]
                                  rfl
                                exact norm_ (by first | (simp only [putAll, Act.put, List.setIfInBounds_toArray, List.set_cons_zero, List.set_cons_succ, i64_w, i32_w]; done) | (simp only [putAll, Act.put, List.setIfInBounds_toArray, List.set_cons_zero, List.set_cons_succ, i64_w, i32_w]; rfl)) (hJ1_2_4 ((x1, x2)) _ ⟨hs.call hi hb hk NG.out, hA.call hs hk⟩)
                              · skip
                                refine box_step ?hg (N := 3) ?hd (cs := #[.int .i64 0, .int .i64 0, .int .i64 0, .int .i64 0]) (t := 53) ?hr ?_; (case hd => rfl); (case hg => rfl); (case hr => first | (go_simp; done) | (go_simp; rfl))
                                intro b5 hg w5 hbox hb
                                refine hK.out _ _ trivial (fun hHeld => ?_)
                                clear hK K
                                refine norm_ (a' := ?_) ?_ ?_
                                rotate_left
                                · simp only [putAll, Act.put, List.setIfInBounds_toArray, List.set_cons_zero, List.set_cons_succ, i64_w, i32_w]
                                  rfl
                                exact norm_ (by first | (simp only [putAll, Act.put, List.setIfInBounds_toArray, List.set_cons_zero, List.set_cons_succ, i64_w, i32_w]; done) | (simp only [putAll, Act.put, List.setIfInBounds_toArray, List.set_cons_zero, List.set_cons_succ, i64_w, i32_w]; rfl)) (hJ1_2_10 (((x1, x2), b5)) _ ⟨hs.make hb, hA.make hb, BkB.new hs HW0.out hg hbox⟩)
                          · rintro b4 w4 ⟨hs, hbx⟩
                            clear HS0
                            refine norm_ (a' := ?_) ?_ ?_
                            rotate_left
                            · try dsimp only
                              simp only [putAll, Act.put, List.setIfInBounds_toArray, List.set_cons_zero, List.set_cons_succ, i64_w, i32_w]
                              rfl
                            refine two_ (i := 2) (j := 8) (Ni := some 6) (Nj := some 12) #[true, true, true, true, true, false, false, true, false, false, true, false] #[true, true, false, true, true, false, false, true, true, false, true, false] rfl rfl rfl rfl (two_of HT_.out (by kernel_rfl)) (by decide) (by decide) (fun K hK => ?_) (fun K hK => ?_)
                            · skip
                              refine Kd.R_lit_step (Kd.int .i64) _ 3 ?hg (N := 6) ?hd (xs := ([0, t] : List Int)) (inner := [.int .i64 0, .int .i64 t]) (ok := fun _ => True) (okp := fun _ => True) ?hr ?hp (fun _ hk => hk) trivial (Below.refl _ _) (Nat.le_refl _) (by simp) ?_; (case hd => rfl); (case hg => rfl); (case hr => first | (go_simp; done) | (go_simp; rfl)); (case hp => exact (Reps.one (show Kd.M (Kd.int .i64) _ _ _ 0 [.int .i64 0] from rfl) (Reps.one (show Kd.M (Kd.int .i64) _ _ _ t [.int .i64 t] from rfl) (Reps.none _ _))))
                              intro va w5 ho hb hg_ hnew_
                              clear hg_ hnew_
                              obtain ⟨x, rfl, hA⟩ := BkA.new ho hs
                              rw [← NY.out] at hA
                              clear ho
                              refine hK.out _ _ trivial (fun hHeld => ?_)
                              clear hK K
                              refine norm_ (a' := ?_) ?_ ?_
                              rotate_left
                              · simp only [putAll, Act.put, List.setIfInBounds_toArray, List.set_cons_zero, List.set_cons_succ, i64_w, i32_w]
                                rfl
                              refine pure_ (i := 5) (N := some 9) (v := ?_) (a' := ?_) #[true, true, true, true, true, true, false, true, false, false, true, false] rfl rfl (any_of HT_.out (by kernel_rfl)) (fun _ _ _ h => h) (Or.inl ⟨by rfl, ?_⟩) ?_ ?_
                              rotate_left
                              · intro w'
                                go_simp
                                with_reducible rfl
                              rotate_left
                              · simp only [putAll, Act.put, List.setIfInBounds_toArray, List.set_cons_zero, List.set_cons_succ, i64_w, i32_w]
                                rfl
                              exact norm_ (by first | (simp only [putAll, Act.put, List.setIfInBounds_toArray, List.set_cons_zero, List.set_cons_succ, i64_w, i32_w]; done) | (simp only [putAll, Act.put, List.setIfInBounds_toArray, List.set_cons_zero, List.set_cons_succ, i64_w, i32_w]; rfl)) (hJ1_2_4_10 ((x, b4)) _ ⟨hs.make hb, hA, hbx.make hb⟩)
                            · skip
                              refine goes_ Try.func70 (by kernel_rfl) rfl #[.pointer (some ⟨g, 0, none⟩), .int .i64 12] (by rfl) rfl rfl (by (try simp only [List.map_toArray, List.map_cons, List.map_nil]); first | done | rfl) ?_
                              with_reducible refine (spec_l00Src_next.calls g s0_0 a2 s2 12 m a3 s3 w0 _ hs.src hs.bel A3.out).mono ?_
                              rintro e w5 ⟨rfl, hi, hb, hk⟩
                              refine ⟨_, rfl, ?_⟩
                              refine hK.out _ _ trivial (fun hHeld => ?_)
                              clear hK K
                              refine norm_ (a' := ?_) ?_ ?_
                              rotate_left
                              · simp only [putAll, Act.put, List.setIfInBounds_toArray, List.set_cons_zero, List.set_cons_succ, i64_w, i32_w]
                                rfl
                              exact norm_ (by first | (simp only [putAll, Act.put, List.setIfInBounds_toArray, List.set_cons_zero, List.set_cons_succ, i64_w, i32_w]; done) | (simp only [putAll, Act.put, List.setIfInBounds_toArray, List.set_cons_zero, List.set_cons_succ, i64_w, i32_w]; rfl)) (hJ1_4_8_10 (b4) _ ⟨hs.call hi hb hk NG.out, hbx.call hk⟩)
                        · rintro u_ w4 hs
                          clear HS0
                          refine norm_ (a' := ?_) ?_ ?_
                          rotate_left
                          · try dsimp only
                            simp only [putAll, Act.put, List.setIfInBounds_toArray, List.set_cons_zero, List.set_cons_succ, i64_w, i32_w]
                            rfl
                          refine two_ (i := 2) (j := 10) (Ni := some 6) (Nj := some 3) #[true, true, true, true, true, false, false, true, true, false, false, false] #[true, true, false, true, true, false, false, true, true, false, true, false] rfl rfl rfl rfl (two_of HT_.out (by kernel_rfl)) (by decide) (by decide) (fun K hK => ?_) (fun K hK => ?_)
                          · skip
                            refine Kd.R_lit_step (Kd.int .i64) _ 3 ?hg (N := 6) ?hd (xs := ([0, t] : List Int)) (inner := [.int .i64 0, .int .i64 t]) (ok := fun _ => True) (okp := fun _ => True) ?hr ?hp (fun _ hk => hk) trivial (Below.refl _ _) (Nat.le_refl _) (by simp) ?_; (case hd => rfl); (case hg => rfl); (case hr => first | (go_simp; done) | (go_simp; rfl)); (case hp => exact (Reps.one (show Kd.M (Kd.int .i64) _ _ _ 0 [.int .i64 0] from rfl) (Reps.one (show Kd.M (Kd.int .i64) _ _ _ t [.int .i64 t] from rfl) (Reps.none _ _))))
                            intro va w5 ho hb hg_ hnew_
                            clear hg_ hnew_
                            obtain ⟨x, rfl, hA⟩ := BkA.new ho hs
                            rw [← NY.out] at hA
                            clear ho
                            refine hK.out _ _ trivial (fun hHeld => ?_)
                            clear hK K
                            refine norm_ (a' := ?_) ?_ ?_
                            rotate_left
                            · simp only [putAll, Act.put, List.setIfInBounds_toArray, List.set_cons_zero, List.set_cons_succ, i64_w, i32_w]
                              rfl
                            refine pure_ (i := 5) (N := some 9) (v := ?_) (a' := ?_) #[true, true, true, true, true, true, false, true, true, false, false, false] rfl rfl (any_of HT_.out (by kernel_rfl)) (fun _ _ _ h => h) (Or.inl ⟨by rfl, ?_⟩) ?_ ?_
                            rotate_left
                            · intro w'
                              go_simp
                              with_reducible rfl
                            rotate_left
                            · simp only [putAll, Act.put, List.setIfInBounds_toArray, List.set_cons_zero, List.set_cons_succ, i64_w, i32_w]
                              rfl
                            exact norm_ (by first | (simp only [putAll, Act.put, List.setIfInBounds_toArray, List.set_cons_zero, List.set_cons_succ, i64_w, i32_w]; done) | (simp only [putAll, Act.put, List.setIfInBounds_toArray, List.set_cons_zero, List.set_cons_succ, i64_w, i32_w]; rfl)) (hJ1_2_4_8 (x) _ ⟨hs.make hb, hA⟩)
                          · skip
                            refine box_step ?hg (N := 3) ?hd (cs := #[.int .i64 0, .int .i64 0, .int .i64 0, .int .i64 0]) (t := 53) ?hr ?_; (case hd => rfl); (case hg => rfl); (case hr => first | (go_simp; done) | (go_simp; rfl))
                            intro b5 hg w5 hbox hb
                            refine hK.out _ _ trivial (fun hHeld => ?_)
                            clear hK K
                            refine norm_ (a' := ?_) ?_ ?_
                            rotate_left
                            · simp only [putAll, Act.put, List.setIfInBounds_toArray, List.set_cons_zero, List.set_cons_succ, i64_w, i32_w]
                              rfl
                            exact norm_ (by first | (simp only [putAll, Act.put, List.setIfInBounds_toArray, List.set_cons_zero, List.set_cons_succ, i64_w, i32_w]; done) | (simp only [putAll, Act.put, List.setIfInBounds_toArray, List.set_cons_zero, List.set_cons_succ, i64_w, i32_w]; rfl)) (hJ1_4_8_10 (b5) _ ⟨hs.make hb, BkB.new hs HW0.out hg hbox⟩)
                      · rintro ⟨⟨x1, x2⟩, b4⟩ w4 ⟨hs, hA, hbx⟩
                        clear HS0
                        refine norm_ (a' := ?_) ?_ ?_
                        rotate_left
                        · try dsimp only
                          simp only [putAll, Act.put, List.setIfInBounds_toArray, List.set_cons_zero, List.set_cons_succ, i64_w, i32_w]
                          rfl
                        refine one_ (i := 4) (N := some 8) #[true, true, true, true, true, false, false, true, false, false, true, false] rfl rfl (one_of HT_.out (by kernel_rfl)) (by decide) (fun K hK => ?_)
                        refine goes_ Try.func70 (by kernel_rfl) rfl #[.pointer (some ⟨g, 0, none⟩), .int .i64 2] (by rfl) rfl rfl (by (try simp only [List.map_toArray, List.map_cons, List.map_nil]); first | done | rfl) ?_
                        with_reducible refine (spec_l00Src_next.calls g s0_0 a1 s1 2 q a2 s2 w0 _ hs.src hs.bel A2.out).mono ?_
                        rintro e w5 ⟨rfl, hi, hb, hk⟩
                        refine ⟨_, rfl, ?_⟩
                        refine hK.out _ _ trivial (fun hHeld => ?_)
                        clear hK K
                        refine norm_ (a' := ?_) ?_ ?_
                        rotate_left
                        · simp only [putAll, Act.put, List.setIfInBounds_toArray, List.set_cons_zero, List.set_cons_succ, i64_w, i32_w]
                          rfl
                        refine pure_ (i := 5) (N := some 9) (v := ?_) (a' := ?_) #[true, true, true, true, true, true, false, true, false, false, true, false] rfl rfl (any_of HT_.out (by kernel_rfl)) (fun _ _ _ h => h) (Or.inl ⟨by rfl, ?_⟩) ?_ ?_
                        rotate_left
                        · intro w'
                          go_simp
                          with_reducible rfl
                        rotate_left
                        · simp only [putAll, Act.put, List.setIfInBounds_toArray, List.set_cons_zero, List.set_cons_succ, i64_w, i32_w]
                          rfl
                        exact norm_ (by first | (simp only [putAll, Act.put, List.setIfInBounds_toArray, List.set_cons_zero, List.set_cons_succ, i64_w, i32_w]; done) | (simp only [putAll, Act.put, List.setIfInBounds_toArray, List.set_cons_zero, List.set_cons_succ, i64_w, i32_w]; rfl)) (hJ1_2_4_10 (((x1, x2), b4)) _ ⟨hs.call hi hb hk NG.out, hA.call hs hk, hbx.call hk⟩)
                    · rintro ⟨x1, x2⟩ w4 ⟨hs, hA⟩
                      clear HS0
                      refine norm_ (a' := ?_) ?_ ?_
                      rotate_left
                      · try dsimp only
                        simp only [putAll, Act.put, List.setIfInBounds_toArray, List.set_cons_zero, List.set_cons_succ, i64_w, i32_w]
                        rfl
                      refine three_ (i := 6) (j := 8) (k := 10) (Ni := some 10) (Nj := some 12) (Nk := some 3) #[true, true, true, true, true, true, true, true, false, false, false, false] #[true, true, true, true, true, true, false, true, true, false, false, false] #[true, true, true, true, true, true, false, true, false, false, true, false] rfl rfl rfl rfl rfl rfl (three_of HT_.out (by kernel_rfl)) (by decide) (by decide) (by decide) (fun K hK => ?_) (fun K hK => ?_) (fun K hK => ?_)
                      · skip
                        have hc := hA.cell LY.out q CQ.out.1 CQ.out.2
                        rw [NV.out] at hc
                        have HSX := Aside0.mk hs
                        have HAX := Aside0.mk hA
                        clear hs hA
                        refine value_ (w1 := ?_) (v := ?_) (by rfl) rfl ?_ ?_
                        rotate_left 2
                        · go_simp
                          constructor
                          · rfl
                          · rfl
                        clear hc
                        refine hK.out _ _ trivial (fun hHeld => ?_)
                        clear hK K
                        refine norm_ (a' := ?_) ?_ ?_
                        rotate_left
                        · simp only [putAll, Act.put, List.setIfInBounds_toArray, List.set_cons_zero, List.set_cons_succ, i64_w, i32_w]
                          rfl
                        exact norm_ (by first | (simp only [putAll, Act.put, List.setIfInBounds_toArray, List.set_cons_zero, List.set_cons_succ, i64_w, i32_w]; done) | (simp only [putAll, Act.put, List.setIfInBounds_toArray, List.set_cons_zero, List.set_cons_succ, i64_w, i32_w]; rfl)) (hJ1_2_4_6 ((x1, x2)) _ ⟨HSX.out, HAX.out⟩)
                      · skip
                        refine goes_ Try.func70 (by kernel_rfl) rfl #[.pointer (some ⟨g, 0, none⟩), .int .i64 12] (by rfl) rfl rfl (by (try simp only [List.map_toArray, List.map_cons, List.map_nil]); first | done | rfl) ?_
                        with_reducible refine (spec_l00Src_next.calls g s0_0 a2 s2 12 m a3 s3 w0 _ hs.src hs.bel A3.out).mono ?_
                        rintro e w5 ⟨rfl, hi, hb, hk⟩
                        refine ⟨_, rfl, ?_⟩
                        refine hK.out _ _ trivial (fun hHeld => ?_)
                        clear hK K
                        refine norm_ (a' := ?_) ?_ ?_
                        rotate_left
                        · simp only [putAll, Act.put, List.setIfInBounds_toArray, List.set_cons_zero, List.set_cons_succ, i64_w, i32_w]
                          rfl
                        exact norm_ (by first | (simp only [putAll, Act.put, List.setIfInBounds_toArray, List.set_cons_zero, List.set_cons_succ, i64_w, i32_w]; done) | (simp only [putAll, Act.put, List.setIfInBounds_toArray, List.set_cons_zero, List.set_cons_succ, i64_w, i32_w]; rfl)) (hJ1_2_4_8 ((x1, x2)) _ ⟨hs.call hi hb hk NG.out, hA.call hs hk⟩)
                      · skip
                        refine box_step ?hg (N := 3) ?hd (cs := #[.int .i64 0, .int .i64 0, .int .i64 0, .int .i64 0]) (t := 53) ?hr ?_; (case hd => rfl); (case hg => rfl); (case hr => first | (go_simp; done) | (go_simp; rfl))
                        intro b5 hg w5 hbox hb
                        refine hK.out _ _ trivial (fun hHeld => ?_)
                        clear hK K
                        refine norm_ (a' := ?_) ?_ ?_
                        rotate_left
                        · simp only [putAll, Act.put, List.setIfInBounds_toArray, List.set_cons_zero, List.set_cons_succ, i64_w, i32_w]
                          rfl
                        exact norm_ (by first | (simp only [putAll, Act.put, List.setIfInBounds_toArray, List.set_cons_zero, List.set_cons_succ, i64_w, i32_w]; done) | (simp only [putAll, Act.put, List.setIfInBounds_toArray, List.set_cons_zero, List.set_cons_succ, i64_w, i32_w]; rfl)) (hJ1_2_4_10 (((x1, x2), b5)) _ ⟨hs.make hb, hA.make hb, BkB.new hs HW0.out hg hbox⟩)
                  · rintro b4 w4 ⟨hs, hbx⟩
                    clear HS0
                    refine norm_ (a' := ?_) ?_ ?_
                    rotate_left
                    · try dsimp only
                      simp only [putAll, Act.put, List.setIfInBounds_toArray, List.set_cons_zero, List.set_cons_succ, i64_w, i32_w]
                      rfl
                    refine one_ (i := 2) (N := some 6) #[true, true, true, true, true, false, false, true, true, false, true, false] rfl rfl (one_of HT_.out (by kernel_rfl)) (by decide) (fun K hK => ?_)
                    refine Kd.R_lit_step (Kd.int .i64) _ 3 ?hg (N := 6) ?hd (xs := ([0, t] : List Int)) (inner := [.int .i64 0, .int .i64 t]) (ok := fun _ => True) (okp := fun _ => True) ?hr ?hp (fun _ hk => hk) trivial (Below.refl _ _) (Nat.le_refl _) (by simp) ?_; (case hd => rfl); (case hg => rfl); (case hr => first | (go_simp; done) | (go_simp; rfl)); (case hp => exact (Reps.one (show Kd.M (Kd.int .i64) _ _ _ 0 [.int .i64 0] from rfl) (Reps.one (show Kd.M (Kd.int .i64) _ _ _ t [.int .i64 t] from rfl) (Reps.none _ _))))
                    intro va w5 ho hb hg_ hnew_
                    clear hg_ hnew_
                    obtain ⟨x, rfl, hA⟩ := BkA.new ho hs
                    rw [← NY.out] at hA
                    clear ho
                    refine hK.out _ _ trivial (fun hHeld => ?_)
                    clear hK K
                    refine norm_ (a' := ?_) ?_ ?_
                    rotate_left
                    · simp only [putAll, Act.put, List.setIfInBounds_toArray, List.set_cons_zero, List.set_cons_succ, i64_w, i32_w]
                      rfl
                    refine pure_ (i := 5) (N := some 9) (v := ?_) (a' := ?_) #[true, true, true, true, true, true, false, true, true, false, true, false] rfl rfl (any_of HT_.out (by kernel_rfl)) (fun _ _ _ h => h) (Or.inl ⟨by rfl, ?_⟩) ?_ ?_
                    rotate_left
                    · intro w'
                      go_simp
                      with_reducible rfl
                    rotate_left
                    · simp only [putAll, Act.put, List.setIfInBounds_toArray, List.set_cons_zero, List.set_cons_succ, i64_w, i32_w]
                      rfl
                    exact norm_ (by first | (simp only [putAll, Act.put, List.setIfInBounds_toArray, List.set_cons_zero, List.set_cons_succ, i64_w, i32_w]; done) | (simp only [putAll, Act.put, List.setIfInBounds_toArray, List.set_cons_zero, List.set_cons_succ, i64_w, i32_w]; rfl)) (hJ1_2_4_8_10 ((x, b4)) _ ⟨hs.make hb, hA, hbx.make hb⟩)
                · rintro ⟨⟨x1, x2⟩, b4⟩ w4 ⟨hs, hA, hbx⟩
                  clear HS0
                  refine norm_ (a' := ?_) ?_ ?_
                  rotate_left
                  · try dsimp only
                    simp only [putAll, Act.put, List.setIfInBounds_toArray, List.set_cons_zero, List.set_cons_succ, i64_w, i32_w]
                    rfl
                  refine two_ (i := 6) (j := 8) (Ni := some 10) (Nj := some 12) #[true, true, true, true, true, true, true, true, false, false, true, false] #[true, true, true, true, true, true, false, true, true, false, true, false] rfl rfl rfl rfl (two_of HT_.out (by kernel_rfl)) (by decide) (by decide) (fun K hK => ?_) (fun K hK => ?_)
                  · skip
                    have hc := hA.cell LY.out q CQ.out.1 CQ.out.2
                    rw [NV.out] at hc
                    have HSX := Aside0.mk hs
                    have HAX := Aside0.mk hA
                    have HBX := Aside0.mk hbx
                    clear hbx
                    clear hs hA
                    refine value_ (w1 := ?_) (v := ?_) (by rfl) rfl ?_ ?_
                    rotate_left 2
                    · go_simp
                      constructor
                      · rfl
                      · rfl
                    clear hc
                    refine hK.out _ _ trivial (fun hHeld => ?_)
                    clear hK K
                    refine norm_ (a' := ?_) ?_ ?_
                    rotate_left
                    · simp only [putAll, Act.put, List.setIfInBounds_toArray, List.set_cons_zero, List.set_cons_succ, i64_w, i32_w]
                      rfl
                    exact norm_ (by first | (simp only [putAll, Act.put, List.setIfInBounds_toArray, List.set_cons_zero, List.set_cons_succ, i64_w, i32_w]; done) | (simp only [putAll, Act.put, List.setIfInBounds_toArray, List.set_cons_zero, List.set_cons_succ, i64_w, i32_w]; rfl)) (hJ1_2_4_6_10 (((x1, x2), b4)) _ ⟨HSX.out, HAX.out, HBX.out⟩)
                  · skip
                    refine goes_ Try.func70 (by kernel_rfl) rfl #[.pointer (some ⟨g, 0, none⟩), .int .i64 12] (by rfl) rfl rfl (by (try simp only [List.map_toArray, List.map_cons, List.map_nil]); first | done | rfl) ?_
                    with_reducible refine (spec_l00Src_next.calls g s0_0 a2 s2 12 m a3 s3 w0 _ hs.src hs.bel A3.out).mono ?_
                    rintro e w5 ⟨rfl, hi, hb, hk⟩
                    refine ⟨_, rfl, ?_⟩
                    refine hK.out _ _ trivial (fun hHeld => ?_)
                    clear hK K
                    refine norm_ (a' := ?_) ?_ ?_
                    rotate_left
                    · simp only [putAll, Act.put, List.setIfInBounds_toArray, List.set_cons_zero, List.set_cons_succ, i64_w, i32_w]
                      rfl
                    exact norm_ (by first | (simp only [putAll, Act.put, List.setIfInBounds_toArray, List.set_cons_zero, List.set_cons_succ, i64_w, i32_w]; done) | (simp only [putAll, Act.put, List.setIfInBounds_toArray, List.set_cons_zero, List.set_cons_succ, i64_w, i32_w]; rfl)) (hJ1_2_4_8_10 (((x1, x2), b4)) _ ⟨hs.call hi hb hk NG.out, hA.call hs hk, hbx.call hk⟩)
              · rintro ⟨x1, x2⟩ w4 ⟨hs, hA⟩
                clear HS0
                refine norm_ (a' := ?_) ?_ ?_
                rotate_left
                · try dsimp only
                  simp only [putAll, Act.put, List.setIfInBounds_toArray, List.set_cons_zero, List.set_cons_succ, i64_w, i32_w]
                  rfl
                refine two_ (i := 6) (j := 10) (Ni := some 10) (Nj := some 3) #[true, true, true, true, true, true, true, true, true, false, false, false] #[true, true, true, true, true, true, false, true, true, false, true, false] rfl rfl rfl rfl (two_of HT_.out (by kernel_rfl)) (by decide) (by decide) (fun K hK => ?_) (fun K hK => ?_)
                · skip
                  have hc := hA.cell LY.out q CQ.out.1 CQ.out.2
                  rw [NV.out] at hc
                  have HSX := Aside0.mk hs
                  have HAX := Aside0.mk hA
                  clear hs hA
                  refine value_ (w1 := ?_) (v := ?_) (by rfl) rfl ?_ ?_
                  rotate_left 2
                  · go_simp
                    constructor
                    · rfl
                    · rfl
                  clear hc
                  refine hK.out _ _ trivial (fun hHeld => ?_)
                  clear hK K
                  refine norm_ (a' := ?_) ?_ ?_
                  rotate_left
                  · simp only [putAll, Act.put, List.setIfInBounds_toArray, List.set_cons_zero, List.set_cons_succ, i64_w, i32_w]
                    rfl
                  refine pure_ (i := 9) (N := some 13) (v := ?_) (a' := ?_) #[true, true, true, true, true, true, true, true, true, true, false, false] rfl rfl (any_of HT_.out (by kernel_rfl)) (fun _ _ _ h => h) (Or.inl ⟨by rfl, ?_⟩) ?_ ?_
                  rotate_left
                  · intro w'
                    go_simp
                    with_reducible rfl
                  rotate_left
                  · simp only [putAll, Act.put, List.setIfInBounds_toArray, List.set_cons_zero, List.set_cons_succ, i64_w, i32_w]
                    rfl
                  exact norm_ (by first | (simp only [putAll, Act.put, List.setIfInBounds_toArray, List.set_cons_zero, List.set_cons_succ, i64_w, i32_w]; done) | (simp only [putAll, Act.put, List.setIfInBounds_toArray, List.set_cons_zero, List.set_cons_succ, i64_w, i32_w]; rfl)) (hJ1_2_4_6_8 ((x1, x2)) _ ⟨HSX.out, HAX.out⟩)
                · skip
                  refine box_step ?hg (N := 3) ?hd (cs := #[.int .i64 0, .int .i64 0, .int .i64 0, .int .i64 0]) (t := 53) ?hr ?_; (case hd => rfl); (case hg => rfl); (case hr => first | (go_simp; done) | (go_simp; rfl))
                  intro b5 hg w5 hbox hb
                  refine hK.out _ _ trivial (fun hHeld => ?_)
                  clear hK K
                  refine norm_ (a' := ?_) ?_ ?_
                  rotate_left
                  · simp only [putAll, Act.put, List.setIfInBounds_toArray, List.set_cons_zero, List.set_cons_succ, i64_w, i32_w]
                    rfl
                  exact norm_ (by first | (simp only [putAll, Act.put, List.setIfInBounds_toArray, List.set_cons_zero, List.set_cons_succ, i64_w, i32_w]; done) | (simp only [putAll, Act.put, List.setIfInBounds_toArray, List.set_cons_zero, List.set_cons_succ, i64_w, i32_w]; rfl)) (hJ1_2_4_8_10 (((x1, x2), b5)) _ ⟨hs.make hb, hA.make hb, BkB.new hs HW0.out hg hbox⟩)
            · rintro ⟨x1, x2⟩ w4 ⟨hs, hA⟩
              clear HS0
              refine norm_ (a' := ?_) ?_ ?_
              rotate_left
              · try dsimp only
                simp only [putAll, Act.put, List.setIfInBounds_toArray, List.set_cons_zero, List.set_cons_succ, i64_w, i32_w]
                rfl
              refine two_ (i := 8) (j := 10) (Ni := some 12) (Nj := some 3) #[true, true, true, true, true, true, true, true, true, false, false, false] #[true, true, true, true, true, true, true, true, false, false, true, false] rfl rfl rfl rfl (two_of HT_.out (by kernel_rfl)) (by decide) (by decide) (fun K hK => ?_) (fun K hK => ?_)
              · skip
                refine goes_ Try.func70 (by kernel_rfl) rfl #[.pointer (some ⟨g, 0, none⟩), .int .i64 12] (by rfl) rfl rfl (by (try simp only [List.map_toArray, List.map_cons, List.map_nil]); first | done | rfl) ?_
                with_reducible refine (spec_l00Src_next.calls g s0_0 a2 s2 12 m a3 s3 w0 _ hs.src hs.bel A3.out).mono ?_
                rintro e w5 ⟨rfl, hi, hb, hk⟩
                refine ⟨_, rfl, ?_⟩
                refine hK.out _ _ trivial (fun hHeld => ?_)
                clear hK K
                refine norm_ (a' := ?_) ?_ ?_
                rotate_left
                · simp only [putAll, Act.put, List.setIfInBounds_toArray, List.set_cons_zero, List.set_cons_succ, i64_w, i32_w]
                  rfl
                refine pure_ (i := 9) (N := some 13) (v := ?_) (a' := ?_) #[true, true, true, true, true, true, true, true, true, true, false, false] rfl rfl (any_of HT_.out (by kernel_rfl)) (fun _ _ _ h => h) (Or.inl ⟨by rfl, ?_⟩) ?_ ?_
                rotate_left
                · intro w'
                  go_simp
                  with_reducible rfl
                rotate_left
                · simp only [putAll, Act.put, List.setIfInBounds_toArray, List.set_cons_zero, List.set_cons_succ, i64_w, i32_w]
                  rfl
                exact norm_ (by first | (simp only [putAll, Act.put, List.setIfInBounds_toArray, List.set_cons_zero, List.set_cons_succ, i64_w, i32_w]; done) | (simp only [putAll, Act.put, List.setIfInBounds_toArray, List.set_cons_zero, List.set_cons_succ, i64_w, i32_w]; rfl)) (hJ1_2_4_6_8 ((x1, x2)) _ ⟨hs.call hi hb hk NG.out, hA.call hs hk⟩)
              · skip
                refine box_step ?hg (N := 3) ?hd (cs := #[.int .i64 0, .int .i64 0, .int .i64 0, .int .i64 0]) (t := 53) ?hr ?_; (case hd => rfl); (case hg => rfl); (case hr => first | (go_simp; done) | (go_simp; rfl))
                intro b5 hg w5 hbox hb
                refine hK.out _ _ trivial (fun hHeld => ?_)
                clear hK K
                refine norm_ (a' := ?_) ?_ ?_
                rotate_left
                · simp only [putAll, Act.put, List.setIfInBounds_toArray, List.set_cons_zero, List.set_cons_succ, i64_w, i32_w]
                  rfl
                exact norm_ (by first | (simp only [putAll, Act.put, List.setIfInBounds_toArray, List.set_cons_zero, List.set_cons_succ, i64_w, i32_w]; done) | (simp only [putAll, Act.put, List.setIfInBounds_toArray, List.set_cons_zero, List.set_cons_succ, i64_w, i32_w]; rfl)) (hJ1_2_4_6_10 (((x1, x2), b5)) _ ⟨hs.make hb, hA.make hb, BkB.new hs HW0.out hg hbox⟩)
          · rintro ⟨⟨x1, x2⟩, b4⟩ w4 ⟨hs, hA, hbx⟩
            clear HS0
            refine norm_ (a' := ?_) ?_ ?_
            rotate_left
            · try dsimp only
              simp only [putAll, Act.put, List.setIfInBounds_toArray, List.set_cons_zero, List.set_cons_succ, i64_w, i32_w]
              rfl
            refine one_ (i := 6) (N := some 10) #[true, true, true, true, true, true, true, true, true, false, true, false] rfl rfl (one_of HT_.out (by kernel_rfl)) (by decide) (fun K hK => ?_)
            have hc := hA.cell LY.out q CQ.out.1 CQ.out.2
            rw [NV.out] at hc
            have HSX := Aside0.mk hs
            have HAX := Aside0.mk hA
            have HBX := Aside0.mk hbx
            clear hbx
            clear hs hA
            refine value_ (w1 := ?_) (v := ?_) (by rfl) rfl ?_ ?_
            rotate_left 2
            · go_simp
              constructor
              · rfl
              · rfl
            clear hc
            refine hK.out _ _ trivial (fun hHeld => ?_)
            clear hK K
            refine norm_ (a' := ?_) ?_ ?_
            rotate_left
            · simp only [putAll, Act.put, List.setIfInBounds_toArray, List.set_cons_zero, List.set_cons_succ, i64_w, i32_w]
              rfl
            refine pure_ (i := 9) (N := some 13) (v := ?_) (a' := ?_) #[true, true, true, true, true, true, true, true, true, true, true, false] rfl rfl (any_of HT_.out (by kernel_rfl)) (fun _ _ _ h => h) (Or.inl ⟨by rfl, ?_⟩) ?_ ?_
            rotate_left
            · intro w'
              go_simp
              with_reducible rfl
            rotate_left
            · simp only [putAll, Act.put, List.setIfInBounds_toArray, List.set_cons_zero, List.set_cons_succ, i64_w, i32_w]
              rfl
            exact norm_ (by first | (simp only [putAll, Act.put, List.setIfInBounds_toArray, List.set_cons_zero, List.set_cons_succ, i64_w, i32_w]; done) | (simp only [putAll, Act.put, List.setIfInBounds_toArray, List.set_cons_zero, List.set_cons_succ, i64_w, i32_w]; rfl)) (hJ1_2_4_6_8_10 (((x1, x2), b4)) _ ⟨HSX.out, HAX.out, HBX.out⟩)
        · rintro ⟨⟨x1, x2⟩, b4⟩ w4 ⟨hs, hA, hbx⟩
          clear HS0
          refine norm_ (a' := ?_) ?_ ?_
          rotate_left
          · try dsimp only
            simp only [putAll, Act.put, List.setIfInBounds_toArray, List.set_cons_zero, List.set_cons_succ, i64_w, i32_w]
            rfl
          refine one_ (i := 8) (N := some 12) #[true, true, true, true, true, true, true, true, true, false, true, false] rfl rfl (one_of HT_.out (by kernel_rfl)) (by decide) (fun K hK => ?_)
          refine goes_ Try.func70 (by kernel_rfl) rfl #[.pointer (some ⟨g, 0, none⟩), .int .i64 12] (by rfl) rfl rfl (by (try simp only [List.map_toArray, List.map_cons, List.map_nil]); first | done | rfl) ?_
          with_reducible refine (spec_l00Src_next.calls g s0_0 a2 s2 12 m a3 s3 w0 _ hs.src hs.bel A3.out).mono ?_
          rintro e w5 ⟨rfl, hi, hb, hk⟩
          refine ⟨_, rfl, ?_⟩
          refine hK.out _ _ trivial (fun hHeld => ?_)
          clear hK K
          refine norm_ (a' := ?_) ?_ ?_
          rotate_left
          · simp only [putAll, Act.put, List.setIfInBounds_toArray, List.set_cons_zero, List.set_cons_succ, i64_w, i32_w]
            rfl
          refine pure_ (i := 9) (N := some 13) (v := ?_) (a' := ?_) #[true, true, true, true, true, true, true, true, true, true, true, false] rfl rfl (any_of HT_.out (by kernel_rfl)) (fun _ _ _ h => h) (Or.inl ⟨by rfl, ?_⟩) ?_ ?_
          rotate_left
          · intro w'
            go_simp
            with_reducible rfl
          rotate_left
          · simp only [putAll, Act.put, List.setIfInBounds_toArray, List.set_cons_zero, List.set_cons_succ, i64_w, i32_w]
            rfl
          exact norm_ (by first | (simp only [putAll, Act.put, List.setIfInBounds_toArray, List.set_cons_zero, List.set_cons_succ, i64_w, i32_w]; done) | (simp only [putAll, Act.put, List.setIfInBounds_toArray, List.set_cons_zero, List.set_cons_succ, i64_w, i32_w]; rfl)) (hJ1_2_4_6_8_10 (((x1, x2), b4)) _ ⟨hs.call hi hb hk NG.out, hA.call hs hk, hbx.call hk⟩)
      · rintro ⟨x1, x2⟩ w4 ⟨hs, hA⟩
        clear HS0
        refine norm_ (a' := ?_) ?_ ?_
        rotate_left
        · try dsimp only
          simp only [putAll, Act.put, List.setIfInBounds_toArray, List.set_cons_zero, List.set_cons_succ, i64_w, i32_w]
          rfl
        refine one_ (i := 10) (N := some 3) #[true, true, true, true, true, true, true, true, true, true, true, false] rfl rfl (one_of HT_.out (by kernel_rfl)) (by decide) (fun K hK => ?_)
        refine box_step ?hg (N := 3) ?hd (cs := #[.int .i64 0, .int .i64 0, .int .i64 0, .int .i64 0]) (t := 53) ?hr ?_; (case hd => rfl); (case hg => rfl); (case hr => first | (go_simp; done) | (go_simp; rfl))
        intro b5 hg w5 hbox hb
        refine hK.out _ _ trivial (fun hHeld => ?_)
        clear hK K
        refine norm_ (a' := ?_) ?_ ?_
        rotate_left
        · simp only [putAll, Act.put, List.setIfInBounds_toArray, List.set_cons_zero, List.set_cons_succ, i64_w, i32_w]
          rfl
        exact norm_ (by first | (simp only [putAll, Act.put, List.setIfInBounds_toArray, List.set_cons_zero, List.set_cons_succ, i64_w, i32_w]; done) | (simp only [putAll, Act.put, List.setIfInBounds_toArray, List.set_cons_zero, List.set_cons_succ, i64_w, i32_w]; rfl)) (hJ1_2_4_6_8_10 (((x1, x2), b5)) _ ⟨hs.make hb, hA.make hb, BkB.new hs HW0.out hg hbox⟩)
    · rintro ⟨⟨x1, x2⟩, b4⟩ w4 ⟨hs, hA, hbx⟩
      clear HS0
      refine norm_ (a' := ?_) ?_ ?_
      rotate_left
      · try dsimp only
        simp only [putAll, Act.put, List.setIfInBounds_toArray, List.set_cons_zero, List.set_cons_succ, i64_w, i32_w]
        rfl
      refine one_ (i := 11) (N := none) #[true, true, true, true, true, true, true, true, true, true, true, true] rfl rfl (one_of HT_.out (by kernel_rfl)) (by decide) (fun K hK => ?_)
      have z0 := (blk_cell hbx.1 0).trans (rfl : _ = some (Value.int .i64 0))
      have z1 := (blk_cell hbx.1 1).trans (rfl : _ = some (Value.int .i64 0))
      have z2 := (blk_cell hbx.1 2).trans (rfl : _ = some (Value.int .i64 0))
      have z3 := (blk_cell hbx.1 3).trans (rfl : _ = some (Value.int .i64 0))
      have zf0 := blk_frozen hbx.1 0
      have zf1 := blk_frozen hbx.1 1
      have zf2 := blk_frozen hbx.1 2
      have zf3 := blk_frozen hbx.1 3
      have n1 : ((x1, x2), b4).2 ≠ w.heap.size := hbx.2.2.2.2
      have HSX := Aside0.mk hs
      have HBX := Aside0.mk hbx
      clear hs hbx hA
      refine skip_ (w1 := ?_) (by rfl) rfl ?_ ?_
      rotate_left
      · go_simp
        rfl
      refine hK.out _ _ trivial (fun hHeld => ?_)
      clear hK K
      refine done_ (done_of HT_.out (by kernel_rfl)) ?_
      go_wp2_with fail
      go_meet
      exact ⟨_, rfl, ⟨HSX.out.stored HBX.out⟩, ⟨HBX.out.stored⟩⟩
  case rest =>
    obtain ⟨b, rfl, HS, HB⟩ := hcut
    clear HS0
    have z0 := (blk_cell HB.out.1 0).trans (rfl : _ = some (Value.int .i64 v))
    have zf0 := blk_frozen HB.out.1 0
    have z1 := (blk_cell HB.out.1 1).trans (rfl : _ = some (Value.int .i64 m))
    have zf1 := blk_frozen HB.out.1 1
    have z2 := (blk_cell HB.out.1 2).trans (rfl : _ = some (Value.int .i64 0))
    have zf2 := blk_frozen HB.out.1 2
    have z3 := (blk_cell HB.out.1 3).trans (rfl : _ = some (Value.int .i64 0))
    have zf3 := blk_frozen HB.out.1 3
    have n1 : b ≠ w.heap.size := HB.out.2.2.2.2
    have n2 : w.heap.size ≠ b := Ne.symm n1
    have NG2 : Aside0 (g ≠ w.heap.size) := ⟨Ne.symm NG.out⟩
    have h := HH.out
    have hy := NY.out
    have hv := NV.out
    rw [hy] at hv
    rw [hv] at h
    clear hy hv HH
    by_cases hbal : bal > 0
    · rw [if_pos hbal] at h
      obtain ⟨⟨inp, a5, s5⟩, e5, h⟩ := Option.bind_eq_some_iff.mp h
      dsimp only at h e5
      have A5 := Aside0.mk e5
      clear e5
      simp only [Option.some.injEq, Prod.mk.injEq] at h
      obtain ⟨rfl, rfl, rfl, rfl, rfl, rfl⟩ := h
      have hb0 : decide (0 < bal) = true := decide_eq_true hbal
      clear hbal
      go_wp2_with (first | (go_at_call 70; (with_reducible refine (spec_l00Src_next.calls g s0_0 a3 s3 (wrap64 (m + 1)) bal a4 s4 w0 _ HS.out.src HS.out.bel A4.out).mono ?_); rintro e w5 ⟨rfl, hi, hb, hk⟩; have HS5 := Aside0.mk ((HS.out.call hi hb hk NG.out).put (HB.out.call hk) 2 (.int .i64 bal)); have HB5 := Aside0.mk ((HB.out.call hk).put (cs' := #[.int .i64 v, .int .i64 m, .int .i64 bal, .int .i64 0]) 2 (.int .i64 bal) rfl); have HC5 := Aside0.mk (HB.out.call hk); have HD5 := Aside0.mk (HS.out.call hi hb hk NG.out); clear hi hb hk; have y0 := (blk_cell HC5.out.1 0).trans (rfl : _ = some (Value.int .i64 v)); have yf0 := blk_frozen HC5.out.1 0; have y1 := (blk_cell HC5.out.1 1).trans (rfl : _ = some (Value.int .i64 m)); have yf1 := blk_frozen HC5.out.1 1; have y2 := (blk_cell HC5.out.1 2).trans (rfl : _ = some (Value.int .i64 0)); have yf2 := blk_frozen HC5.out.1 2; have y3 := (blk_cell HC5.out.1 3).trans (rfl : _ = some (Value.int .i64 0)); have yf3 := blk_frozen HC5.out.1 3; have k0 := (blk_cell HD5.out.1 0).trans (rfl : _ = some (Value.int .i64 0)); have kf0 := blk_frozen HD5.out.1 0; have k1 := (blk_cell HD5.out.1 1).trans (rfl : _ = some (Value.int .i64 0)); have kf1 := blk_frozen HD5.out.1 1; have k2 := (blk_cell HD5.out.1 2).trans (rfl : _ = some (Value.int .i64 0)); have kf2 := blk_frozen HD5.out.1 2; have k3 := (blk_cell HD5.out.1 3).trans (rfl : _ = some (Value.int .i64 0)); have kf3 := blk_frozen HD5.out.1 3) | (go_at_call 70; (with_reducible refine (spec_l00Src_next.calls g s0_0 a4 s4 9 inp a5 s5 w0 _ HS5.out.src HS5.out.bel A5.out).mono ?_); rintro e w6 ⟨rfl, hi, hb, hk⟩; have HS6 := Aside0.mk ((HS5.out.call hi hb hk NG.out).put (HB5.out.call hk) 3 (.int .i64 inp)); have HC6 := Aside0.mk (HB5.out.call hk); have HD6 := Aside0.mk (HS5.out.call hi hb hk NG.out); clear hi hb hk; have p0 := (blk_cell HC6.out.1 0).trans (rfl : _ = some (Value.int .i64 v)); have pf0 := blk_frozen HC6.out.1 0; have p1 := (blk_cell HC6.out.1 1).trans (rfl : _ = some (Value.int .i64 m)); have pf1 := blk_frozen HC6.out.1 1; have p2 := (blk_cell HC6.out.1 2).trans (rfl : _ = some (Value.int .i64 bal)); have pf2 := blk_frozen HC6.out.1 2; have p3 := (blk_cell HC6.out.1 3).trans (rfl : _ = some (Value.int .i64 0)); have pf3 := blk_frozen HC6.out.1 3; have o0 := (blk_cell HD6.out.1 0).trans (rfl : _ = some (Value.int .i64 0)); have of0 := blk_frozen HD6.out.1 0; have o1 := (blk_cell HD6.out.1 1).trans (rfl : _ = some (Value.int .i64 0)); have of1 := blk_frozen HD6.out.1 1; have o2 := (blk_cell HD6.out.1 2).trans (rfl : _ = some (Value.int .i64 0)); have of2 := blk_frozen HD6.out.1 2; have o3 := (blk_cell HD6.out.1 3).trans (rfl : _ = some (Value.int .i64 0)); have of3 := blk_frozen HD6.out.1 3))
      have HE := BkS.ended HS6.out HW0.out NG2.out (x0 := .int .i64 v) (x1 := .int .i64 m) (x2 := .int .i64 bal) (x3 := .int .i64 inp)
      refine bodyPost_ret (results_cell_row rfl _ _ w.heap.size 53 #[.int .i64 v, .int .i64 m, .int .i64 bal, .int .i64 inp] (0, 0) _ rfl (by with_reducible exact HE.heap) Try.underlying53 rfl (by kernel_rfl)) rfl ?_
      exact ⟨rfl, HE.2.1, HE.2.2.1, HE.2.2.2⟩
    · rw [if_neg hbal] at h
      simp only [Option.some.injEq, Prod.mk.injEq] at h
      obtain ⟨rfl, rfl, rfl, rfl, rfl, rfl⟩ := h
      have hb0 : decide (0 < bal) = false := decide_eq_false hbal
      clear hbal
      go_wp2_with (go_at_call 70; (with_reducible refine (spec_l00Src_next.calls g s0_0 a3 s3 (wrap64 (m + 1)) bal a4 s4 w0 _ HS.out.src HS.out.bel A4.out).mono ?_); rintro e w5 ⟨rfl, hi, hb, hk⟩; have HS5 := Aside0.mk ((HS.out.call hi hb hk NG.out).put (HB.out.call hk) 2 (.int .i64 bal)); have HB5 := Aside0.mk ((HB.out.call hk).put (cs' := #[.int .i64 v, .int .i64 m, .int .i64 bal, .int .i64 0]) 2 (.int .i64 bal) rfl); have HC5 := Aside0.mk (HB.out.call hk); have HD5 := Aside0.mk (HS.out.call hi hb hk NG.out); clear hi hb hk; have y0 := (blk_cell HC5.out.1 0).trans (rfl : _ = some (Value.int .i64 v)); have yf0 := blk_frozen HC5.out.1 0; have y1 := (blk_cell HC5.out.1 1).trans (rfl : _ = some (Value.int .i64 m)); have yf1 := blk_frozen HC5.out.1 1; have y2 := (blk_cell HC5.out.1 2).trans (rfl : _ = some (Value.int .i64 0)); have yf2 := blk_frozen HC5.out.1 2; have y3 := (blk_cell HC5.out.1 3).trans (rfl : _ = some (Value.int .i64 0)); have yf3 := blk_frozen HC5.out.1 3; have k0 := (blk_cell HD5.out.1 0).trans (rfl : _ = some (Value.int .i64 0)); have kf0 := blk_frozen HD5.out.1 0; have k1 := (blk_cell HD5.out.1 1).trans (rfl : _ = some (Value.int .i64 0)); have kf1 := blk_frozen HD5.out.1 1; have k2 := (blk_cell HD5.out.1 2).trans (rfl : _ = some (Value.int .i64 0)); have kf2 := blk_frozen HD5.out.1 2; have k3 := (blk_cell HD5.out.1 3).trans (rfl : _ = some (Value.int .i64 0)); have kf3 := blk_frozen HD5.out.1 3)
      have HE := BkS.ended HS5.out HW0.out NG2.out (x0 := .int .i64 v) (x1 := .int .i64 m) (x2 := .int .i64 bal) (x3 := .int .i64 0)
      refine bodyPost_ret (results_cell_row rfl _ _ w.heap.size 53 #[.int .i64 v, .int .i64 m, .int .i64 bal, .int .i64 0] (0, 0) _ rfl (by with_reducible exact HE.heap) Try.underlying53 rfl (by kernel_rfl)) rfl ?_
      exact ⟨rfl, HE.2.1, HE.2.2.1, HE.2.2.2⟩

end Go.Proofs.Ytlclbdfcniiolaa.Hand
