/- Words of the program's step: what it comes to, and what is kept where blocks are made. -/
import Derived.Test.YtlclbdfcniiolaaQ2
import Derived.BigQuiet
import Derived.BigRegion
import Derived.RegionCalls
import Derived.Deep.RegionWith
import Derived.Deep.RegionHeld3
import Derived.Deep.DrawnRows
namespace Go.Proofs.Ytlclbdfcniiolaa.Hand
open Go.RowKit Go.Proofs.YtlclbdfcniiolaaW.PrintWords Go.Proofs.YtlclbdfcniiolaaW.PrintLast Go.Proofs.YtlclbdfcniiolaaW.PrintMore Go.Proofs.Ytlclbdfcniiolaa.Q
set_option linter.unusedVariables false
set_option linter.unusedSimpArgs false
attribute [local go_sem ↓] Go.wp_at_zero Go.wp_at_succ

theorem cell_later {W W' : World} {p : Addr} {v : Value} (hb : Below W.heap.size W W') (h : W.cell? p = some v) : W'.cell? p = some v := (hb.cell (World.block_lt_of_cell? W _ h)).trans h
theorem six_step {W W' : World} {a0 a1 a2 a3 a4 a5 : Addr} {v0 v1 v2 v3 v4 v5 : Value} (h : W.cell? a0 = some v0 ∧ W.cell? a1 = some v1 ∧ W.cell? a2 = some v2 ∧ W.cell? a3 = some v3 ∧ W.cell? a4 = some v4 ∧ W.cell? a5 = some v5) (hb : Below W.heap.size W W') :
    W'.cell? a0 = some v0 ∧ W'.cell? a1 = some v1 ∧ W'.cell? a2 = some v2 ∧ W'.cell? a3 = some v3 ∧ W'.cell? a4 = some v4 ∧ W'.cell? a5 = some v5 :=
  ⟨cell_later hb h.1, cell_later hb h.2.1, cell_later hb h.2.2.1, cell_later hb h.2.2.2.1, cell_later hb h.2.2.2.2.1, cell_later hb h.2.2.2.2.2⟩
theorem below_first {W W' : World} (h : Below W.drew.heap.size W.drew W') : Below W.heap.size W W' := ⟨h.os, h.tape, h.output, h.size, h.block⟩
theorem below_last {W W' : World} {o : Obj} (h : Below (W.alloc o).drew.heap.size (W.alloc o).drew W') : Below W.heap.size W W' := below_step (below_alloc (Below.refl _ _) _).drew h
theorem three_first (w : World) (a b c : Obj) : ((((w.alloc a).alloc b).alloc c).drew).heap[w.heap.size]? = some a := blk_alloc (blk_alloc (blk_new w a) b) c
theorem three_second (w : World) (a b c : Obj) : ((((w.alloc a).alloc b).alloc c).drew).heap[w.heap.size + 1]? = some b := by
  have h := blk_alloc (blk_new (w.alloc a) b) c
  have e : (w.alloc a).heap.size = w.heap.size + 1 := by simp
  rw [e] at h
  exact h
theorem three_third (w : World) (a b c : Obj) : ((((w.alloc a).alloc b).alloc c).drew).heap[w.heap.size + 1 + 1]? = some c := by
  have h := blk_new ((w.alloc a).alloc b) c
  have e : ((w.alloc a).alloc b).heap.size = w.heap.size + 1 + 1 := by simp
  rw [e] at h
  exact h
theorem three_below (w : World) (a b c : Obj) : Below w.heap.size w (((w.alloc a).alloc b).alloc c).drew := (below_alloc (below_alloc (below_alloc (Below.refl _ _) a) b) c).drew
theorem three_size (w : World) (a b c : Obj) : ((((w.alloc a).alloc b).alloc c).drew).heap.size = w.heap.size + 3 := by simp
/-- A row of one's own that is not empty: its block. -/
theorem own_form {e base : Nat} {ok : Nat → Prop} {w : World} {v : Value} {l : List S53} (h : Kd.R k53 e w base ok v l) (hn : 0 < l.length) : ∃ (g c : Nat), v = .slice (some ⟨g, 0, none⟩) l.length c ∧ base ≤ g ∧ g < w.heap.size ∧ ok g := by
  obtain ⟨inner, ho⟩ := Kd.R_own h
  rcases ho.2 with hx | ⟨g, cap, cur, hv, hb, hh, _⟩
  · exact absurd hx.2 (by omega)
  · exact ⟨g, cap, hv, hb, blk_lt hh, h.1 g (by rw [hv]; simp [Value.ownBlock])⟩
/-- The cells of an element of such a row. -/
theorem own_cells {e base g n cap : Nat} {ok : Nat → Prop} {w : World} {l : List S53} (h : Kd.R k53 e w base ok (.slice (some ⟨g, 0, none⟩) n cap) l) (i : Int) (h0 : 0 ≤ i) (h1 : i < (n : Int)) :
    (w.cell? ⟨g, i.toNat * 4, none⟩ = some (.int .i64 (rd_T53 l i).f0) ∧ w.cell? ⟨g, i.toNat * 4 + 1, none⟩ = some (.int .i64 (rd_T53 l i).f1) ∧ w.cell? ⟨g, i.toNat * 4 + 2, none⟩ = some (.int .i64 (rd_T53 l i).f2) ∧ w.cell? ⟨g, i.toNat * 4 + 3, none⟩ = some (.int .i64 (rd_T53 l i).f3)) ∧
    w.frozen? ⟨g, i.toNat * 4, none⟩ = false ∧ w.frozen? ⟨g, i.toNat * 4 + 1, none⟩ = false ∧ w.frozen? ⟨g, i.toNat * 4 + 2, none⟩ = false ∧ w.frozen? ⟨g, i.toNat * 4 + 3, none⟩ = false := by
  obtain ⟨c, hcl, hM, hcc, hfr⟩ := Kd.R_elem h z53 i h0 h1
  obtain rfl := k53_openM hM
  exact ⟨⟨hcc 0 _ rfl, hcc 1 _ rfl, hcc 2 _ rfl, hcc 3 _ rfl⟩, hfr 0, hfr 1, hfr 2, hfr 3⟩
/-- An element of such a row is written whole. -/
theorem own_write {base g n cap : Nat} {ok : Nat → Prop} {w : World} {l : List S53} (h : Kd.R k53 53 w base ok (.slice (some ⟨g, 0, none⟩) n cap) l) (i : Int) (h0 : 0 ≤ i) (h1 : i < (n : Int)) (x : S53) :
    Kd.R k53 53 ((((w.setCell ⟨g, i.toNat * 4, none⟩ (.int .i64 x.f0)).setCell ⟨g, i.toNat * 4 + 1, none⟩ (.int .i64 x.f1)).setCell ⟨g, i.toNat * 4 + 2, none⟩ (.int .i64 x.f2)).setCell ⟨g, i.toNat * 4 + 3, none⟩ (.int .i64 x.f3)) base ok (.slice (some ⟨g, 0, none⟩) n cap) (l.set i.toNat x) := by
  obtain ⟨c, hcl, hM, hcc, hfr⟩ := Kd.R_elem h z53 i h0 h1
  have hm := (Kd.R_seg h i h0 h1 (c := c) (seg := [.int .i64 x.f0, .int .i64 x.f1, .int .i64 x.f2, .int .i64 x.f3]) (j := 0) (okp := fun k => ok k ∧ k ≠ g) hcl hcc (Nat.le_refl 4) (x' := x) (by
    have e : c.take 0 ++ [Value.int .i64 x.f0, .int .i64 x.f1, .int .i64 x.f2, .int .i64 x.f3] ++ c.drop (0 + [Value.int .i64 x.f0, .int .i64 x.f1, .int .i64 x.f2, .int .i64 x.f3].length) = [Value.int .i64 x.f0, .int .i64 x.f1, .int .i64 x.f2, .int .i64 x.f3] := by
      rw [List.drop_of_length_le (by rw [hcl]; exact Nat.le_refl 4)]
      simp
    rw [e]
    exact k53_mkM _ _ _ _) (fun _ hk => hk)).1
  exact hm
theorem put8 {W : World} {b : Nat} {t : TypeId} {y0 y1 y2 y3 y4 y5 y6 y7 x0 x1 x2 x3 x4 x5 x6 x7 : Value} (h : W.heap[b]? = some (.cells #[y0, y1, y2, y3, y4, y5, y6, y7] t (0, 0))) :
    ((((((((W.setCell ⟨b, 0, none⟩ x0).setCell ⟨b, 1, none⟩ x1).setCell ⟨b, 2, none⟩ x2).setCell ⟨b, 3, none⟩ x3).setCell ⟨b, 4, none⟩ x4).setCell ⟨b, 5, none⟩ x5).setCell ⟨b, 6, none⟩ x6).setCell ⟨b, 7, none⟩ x7).heap[b]? = some (.cells #[x0, x1, x2, x3, x4, x5, x6, x7] t (0, 0)) :=
  blk_put (cs := #[x0, x1, x2, x3, x4, x5, x6, y7]) (blk_put (cs := #[x0, x1, x2, x3, x4, x5, y6, y7]) (blk_put (cs := #[x0, x1, x2, x3, x4, y5, y6, y7]) (blk_put (cs := #[x0, x1, x2, x3, y4, y5, y6, y7]) (blk_put (cs := #[x0, x1, x2, y3, y4, y5, y6, y7]) (blk_put (cs := #[x0, x1, y2, y3, y4, y5, y6, y7]) (blk_put (cs := #[x0, y1, y2, y3, y4, y5, y6, y7]) (blk_put h 0 _ rfl) 1 _ rfl) 2 _ rfl) 3 _ rfl) 4 _ rfl) 5 _ rfl) 6 _ rfl) 7 _ rfl
theorem put8z {W : World} {b : Nat} {x0 x1 x2 x3 x4 x5 x6 x7 : Value} (h : W.heap[b]? = some (.cells #[.int .i64 0, .int .i64 0, .int .i64 0, .int .i64 0, .int .i64 0, .int .i64 0, .int .i64 0, .int .i64 0] 26 (0, 0))) :
    ((((((((W.setCell ⟨b, 0, none⟩ x0).setCell ⟨b, 1, none⟩ x1).setCell ⟨b, 2, none⟩ x2).setCell ⟨b, 3, none⟩ x3).setCell ⟨b, 4, none⟩ x4).setCell ⟨b, 5, none⟩ x5).setCell ⟨b, 6, none⟩ x6).setCell ⟨b, 7, none⟩ x7).heap[b]? = some (.cells #[x0, x1, x2, x3, x4, x5, x6, x7] 26 (0, 0)) := put8 h
set_option maxHeartbeats 2000000 in
theorem res8 {W : World} {b : Nat} {ts : Array Value} {x0 x1 x2 x3 x4 x5 x6 x7 : Int} (h4 : ts[4]? = some (.pointer (some ⟨b, 0, none⟩))) (hb : W.heap[b]? = some (.cells #[.int .i64 x0, .int .i64 x1, .int .i64 x2, .int .i64 x3, .int .i64 x4, .int .i64 x5, .int .i64 x6, .int .i64 x7] 26 (0, 0))) :
    (results Try.f44 ts).run Try.prog W = .ok (.agg #[.int .i64 x0, .int .i64 x1, .int .i64 x2, .int .i64 x3, .int .i64 x4, .int .i64 x5, .int .i64 x6, .int .i64 x7]) W := by
  have hu26 := Try.underlying26
  have r0 := (blk_cell hb 0).trans (rfl : _ = some (Value.int .i64 x0))
  have r1 := (blk_cell hb 1).trans (rfl : _ = some (Value.int .i64 x1))
  have r2 := (blk_cell hb 2).trans (rfl : _ = some (Value.int .i64 x2))
  have r3 := (blk_cell hb 3).trans (rfl : _ = some (Value.int .i64 x3))
  have r4 := (blk_cell hb 4).trans (rfl : _ = some (Value.int .i64 x4))
  have r5 := (blk_cell hb 5).trans (rfl : _ = some (Value.int .i64 x5))
  have r6 := (blk_cell hb 6).trans (rfl : _ = some (Value.int .i64 x6))
  have r7 := (blk_cell hb 7).trans (rfl : _ = some (Value.int .i64 x7))
  clear hb
  simp [results, Try.f44, go_sem, *]
/-- What the writing of the own block leaves, with all the stores behind it. -/
theorem write_end {w wc : World} {g base cap : Nat} {ok : Nat → Prop} {l : List S53} (h : Int) (x : S53) {u u0 u1 u2 u3 u4 u5 u6 u7 : Value} (hR : Kd.R k53 53 wc base (fun k => ok k ∧ k < w.heap.size) (.slice (some ⟨g, 0, none⟩) 4 cap) l) (hb : Below w.heap.size w wc) (hok : ok g) (hbg : base ≤ g) (hgl : g < w.heap.size) (h0 : 0 ≤ h) (h4 : h < 4) :
    Kd.R k53 53 (((((((((((((wc.setCell ⟨g, h.toNat * 4, none⟩ (.int .i64 x.f0)).setCell ⟨g, h.toNat * 4 + 1, none⟩ (.int .i64 x.f1)).setCell ⟨g, h.toNat * 4 + 2, none⟩ (.int .i64 x.f2)).setCell ⟨g, h.toNat * 4 + 3, none⟩ (.int .i64 x.f3)).setCell ⟨w.heap.size, 5, none⟩ u).setCell ⟨w.heap.size + 1, 0, none⟩ u0).setCell ⟨w.heap.size + 1, 1, none⟩ u1).setCell ⟨w.heap.size + 1, 2, none⟩ u2).setCell ⟨w.heap.size + 1, 3, none⟩ u3).setCell ⟨w.heap.size + 1, 4, none⟩ u4).setCell ⟨w.heap.size + 1, 5, none⟩ u5).setCell ⟨w.heap.size + 1, 6, none⟩ u6).setCell ⟨w.heap.size + 1, 7, none⟩ u7) base ok (.slice (some ⟨g, 0, none⟩) 4 cap) (l.set h.toNat x) ∧ Kept w (((((((((((((wc.setCell ⟨g, h.toNat * 4, none⟩ (.int .i64 x.f0)).setCell ⟨g, h.toNat * 4 + 1, none⟩ (.int .i64 x.f1)).setCell ⟨g, h.toNat * 4 + 2, none⟩ (.int .i64 x.f2)).setCell ⟨g, h.toNat * 4 + 3, none⟩ (.int .i64 x.f3)).setCell ⟨w.heap.size, 5, none⟩ u).setCell ⟨w.heap.size + 1, 0, none⟩ u0).setCell ⟨w.heap.size + 1, 1, none⟩ u1).setCell ⟨w.heap.size + 1, 2, none⟩ u2).setCell ⟨w.heap.size + 1, 3, none⟩ u3).setCell ⟨w.heap.size + 1, 4, none⟩ u4).setCell ⟨w.heap.size + 1, 5, none⟩ u5).setCell ⟨w.heap.size + 1, 6, none⟩ u6).setCell ⟨w.heap.size + 1, 7, none⟩ u7) ok ∧ Below base w (((((((((((((wc.setCell ⟨g, h.toNat * 4, none⟩ (.int .i64 x.f0)).setCell ⟨g, h.toNat * 4 + 1, none⟩ (.int .i64 x.f1)).setCell ⟨g, h.toNat * 4 + 2, none⟩ (.int .i64 x.f2)).setCell ⟨g, h.toNat * 4 + 3, none⟩ (.int .i64 x.f3)).setCell ⟨w.heap.size, 5, none⟩ u).setCell ⟨w.heap.size + 1, 0, none⟩ u0).setCell ⟨w.heap.size + 1, 1, none⟩ u1).setCell ⟨w.heap.size + 1, 2, none⟩ u2).setCell ⟨w.heap.size + 1, 3, none⟩ u3).setCell ⟨w.heap.size + 1, 4, none⟩ u4).setCell ⟨w.heap.size + 1, 5, none⟩ u5).setCell ⟨w.heap.size + 1, 6, none⟩ u6).setCell ⟨w.heap.size + 1, 7, none⟩ u7) := by
  refine ⟨?_, ?_, ?_⟩
  · refine Kd.R_mono (ok := fun k => ok k ∧ k < w.heap.size) ?_ (fun _ hk => hk.1)
    refine Kd.R_far ?_ (fun k hk => by have := hk.2; show k ≠ _; dsimp only; omega) _
    refine Kd.R_far ?_ (fun k hk => by have := hk.2; show k ≠ _; dsimp only; omega) _
    refine Kd.R_far ?_ (fun k hk => by have := hk.2; show k ≠ _; dsimp only; omega) _
    refine Kd.R_far ?_ (fun k hk => by have := hk.2; show k ≠ _; dsimp only; omega) _
    refine Kd.R_far ?_ (fun k hk => by have := hk.2; show k ≠ _; dsimp only; omega) _
    refine Kd.R_far ?_ (fun k hk => by have := hk.2; show k ≠ _; dsimp only; omega) _
    refine Kd.R_far ?_ (fun k hk => by have := hk.2; show k ≠ _; dsimp only; omega) _
    refine Kd.R_far ?_ (fun k hk => by have := hk.2; show k ≠ _; dsimp only; omega) _
    refine Kd.R_far ?_ (fun k hk => by have := hk.2; show k ≠ _; dsimp only; omega) _
    exact own_write hR h h0 h4 x
  · refine Kept.setCell ?_ (.inr (by dsimp only; omega)) _
    refine Kept.setCell ?_ (.inr (by dsimp only; omega)) _
    refine Kept.setCell ?_ (.inr (by dsimp only; omega)) _
    refine Kept.setCell ?_ (.inr (by dsimp only; omega)) _
    refine Kept.setCell ?_ (.inr (by dsimp only; omega)) _
    refine Kept.setCell ?_ (.inr (by dsimp only; omega)) _
    refine Kept.setCell ?_ (.inr (by dsimp only; omega)) _
    refine Kept.setCell ?_ (.inr (by dsimp only; omega)) _
    refine Kept.setCell ?_ (.inr (Nat.le_refl _)) _
    refine Kept.setCell ?_ (.inl hok) _
    refine Kept.setCell ?_ (.inl hok) _
    refine Kept.setCell ?_ (.inl hok) _
    refine Kept.setCell ?_ (.inl hok) _
    exact Kept.of_below hb ok
  · refine Below.setCell ?_ (by dsimp only; omega) _
    refine Below.setCell ?_ (by dsimp only; omega) _
    refine Below.setCell ?_ (by dsimp only; omega) _
    refine Below.setCell ?_ (by dsimp only; omega) _
    refine Below.setCell ?_ (by dsimp only; omega) _
    refine Below.setCell ?_ (by dsimp only; omega) _
    refine Below.setCell ?_ (by dsimp only; omega) _
    refine Below.setCell ?_ (by dsimp only; omega) _
    refine Below.setCell ?_ (by dsimp only; omega) _
    refine Below.setCell ?_ (by dsimp only; omega) _
    refine Below.setCell ?_ (by dsimp only; omega) _
    refine Below.setCell ?_ (by dsimp only; omega) _
    refine Below.setCell ?_ (by dsimp only; omega) _
    exact Below.mono hb (by omega)
/-! what a step comes to -/
def pxFin (h v ph bal val nx best bb : Int) : Int × Int × Int × Int × Int × Int × Int × Int :=
  if nx < 4 then (h, v, ph, bal, val, nx, best, bb) else if ph = 4 then (h, v, 5, bal, val, nx, best, bb) else if 0 < bb then (h, v, 3, bal, best, nx, best, bb) else (h, v, 3, bal, val, nx, best, bb)
def pxSkip (h nx : Int) : Int := if nx = h then nx + 1 else nx
def pxOf (x : S53) (v : Int) : S53 := if x.f0 < v then ⟨v, 0, 0, 0⟩ else x
def pxLook (h v ph bal val nx best bb : Int) (d : S53) : Int × Int × Int × Int × Int × Int × Int × Int :=
  if v < d.f0 ∨ bal < d.f1 then (h, v, 6, bal, val, nx, best, bb)
  else if ph = 2 ∧ bb < d.f2 then pxFin h v ph bal val (pxSkip h (nx + 1)) d.f3 d.f2
  else pxFin h v ph bal val (pxSkip h (nx + 1)) best bb
def pxRead (h v ph bal val nx best bb : Int) (l : List S53) : Int × Int × Int × Int × Int × Int × Int × Int :=
  if pxSkip h nx < 4 then pxLook h v ph bal val (pxSkip h nx) best bb (pxOf (rd_T53 l (pxSkip h nx)) v) else pxFin h v ph bal val (pxSkip h nx) best bb
def pxWriteD (h v ph bal val nx best bb : Int) (l : List S53) (d : S53) : Int × Int × Int × Int × Int × Int × Int × Int × List S53 :=
  if ph = 1 then (if v < d.f0 ∨ bal < d.f1 ∨ d.f1 = bal then (h, v, 6, bal, val, nx, best, bb, l) else (h, v, 2, bal, val, 0, d.f3, d.f2, l.set h.toNat ⟨d.f0, bal, d.f2, d.f3⟩))
  else (if v < d.f0 ∨ bal < d.f1 ∨ ¬ d.f1 = bal then (h, v, 6, bal, val, nx, best, bb, l) else (h, v, 4, bal, val, 0, best, bb, l.set h.toNat ⟨d.f0, bal, bal, val⟩))
def pxWrite (h v ph bal val nx best bb : Int) (l : List S53) : Int × Int × Int × Int × Int × Int × Int × Int × List S53 :=
  pxWriteD h v ph bal val nx best bb l (pxOf (rd_T53 l h) v)
theorem pxOf_f {x : S53} {v : Int} : impl_Block_of.f x.f0 x.f1 x.f2 x.f3 v = some ((pxOf x v).f0, (pxOf x v).f1, (pxOf x v).f2, (pxOf x v).f3) := by
  unfold impl_Block_of.f pxOf
  by_cases c : x.f0 < v
  · rw [if_pos c, if_pos c]
  · rw [if_neg c, if_neg c]
/-! what the walk of a law keeps: the blocks of its variables and its own slices of blocks (each in a range of block numbers of its own) -/
def St (w W : World) (bl : List (Nat × Obj)) (sl : List (Nat × Nat × Value × List S53)) : Prop :=
  Below w.heap.size w W ∧ (∀ p ∈ bl, W.heap[p.1]? = some p.2) ∧ ∀ s ∈ sl, Kd.R k53 53 W w.heap.size (fun k => s.1 ≤ k ∧ k < s.2.1) s.2.2.1 s.2.2.2
section
variable {w W W' : World} {bl bl' : List (Nat × Obj)} {sl sl' : List (Nat × Nat × Value × List S53)}
theorem St.nil (w : World) : St w w [] [] := ⟨Below.refl _ _, fun _ h => by simp at h, fun _ h => by simp at h⟩
theorem St.below (h : St w W bl sl) (hb : Below W.heap.size W W') : St w W' bl sl := ⟨below_step h.1 hb, fun p hp => blk_below (h.2.1 p hp) hb, fun s hs => Kd.R_below (h.2.2 s hs) hb⟩
theorem St.box (h : St w W bl sl) (o : Obj) : St w (W.alloc o) ((W.heap.size, o) :: bl) sl := by
  have h2 := h.below (below_alloc (Below.refl _ W) o)
  refine ⟨h2.1, fun p hp => ?_, h2.2.2⟩
  rcases List.mem_cons.1 hp with rfl | hp
  · exact blk_new W o
  · exact h2.2.1 p hp
theorem St.slice {v : Value} {l : List S53} (h : St w W bl sl) (ho : Kd.R k53 53 W' W.heap.size (fun _ => True) v l) (hb : Below W.heap.size W W') : St w W' bl ((W.heap.size, W'.heap.size, v, l) :: sl) := by
  have h2 := h.below hb
  refine ⟨h2.1, h2.2.1, fun s hs => ?_⟩
  rcases List.mem_cons.1 hs with rfl | hs
  · exact Kd.R_mono (Kd.R_lower (Kd.R_mono (ok' := fun k => W.heap.size ≤ k ∧ k < W'.heap.size) (Kd.R_bound ho) (fun k hk => ⟨hk.2.1, hk.2.2.1⟩)) h.1.size) (fun k hk => hk)
  · exact h2.2.2 s hs
theorem St.less (h : St w W bl sl) (hb : ∀ p ∈ bl', p ∈ bl) (hs : ∀ s ∈ sl', s ∈ sl) : St w W bl' sl' := ⟨h.1, fun p hp => h.2.1 p (hb p hp), fun s hs' => h.2.2 s (hs s hs')⟩
theorem St.marked {lo hi : Nat} {v : Value} {l l' : List S53} (h : St w W bl ((lo, hi, v, l) :: sl)) (hr : Kd.R k53 53 W' w.heap.size (fun k => (lo ≤ k ∧ k < hi) ∨ W.heap.size ≤ k) v l') (hb : Below w.heap.size w W') (hk : Kept W W' (fun k => lo ≤ k ∧ k < hi))
    (h1 : ∀ p ∈ bl, p.1 < lo ∨ hi ≤ p.1) (h2 : ∀ s ∈ sl, s.2.1 ≤ lo ∨ hi ≤ s.1) : St w W' bl ((lo, hi, v, l') :: sl) := by
  refine ⟨hb, fun p hp => blk_kept (h.2.1 p hp) hk (fun hx => by have := h1 p hp; omega), fun s hs => ?_⟩
  rcases List.mem_cons.1 hs with rfl | hs
  · exact Kd.R_reok rfl hr (fun k e => (h.2.2 (lo, hi, v, l) List.mem_cons_self).1 k e)
  · exact Kd.R_kept (h.2.2 s (List.mem_cons_of_mem _ hs)) hk (fun k hk' hx => by have := h2 s hs; omega)
theorem St.at_ {lo hi : Nat} {v : Value} {l : List S53} (h : St w W bl sl) (hm : (lo, hi, v, l) ∈ sl) : Kd.R k53 53 W w.heap.size (fun k => lo ≤ k ∧ k < hi) v l := h.2.2 _ hm
theorem St.blk {b : Nat} {o : Obj} (h : St w W bl sl) (hm : (b, o) ∈ bl) : W.heap[b]? = some o := h.2.1 _ hm
end
end Go.Proofs.Ytlclbdfcniiolaa.Hand
