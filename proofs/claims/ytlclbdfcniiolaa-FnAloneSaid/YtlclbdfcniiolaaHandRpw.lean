/- Words of the program's run of ballots: its rows of ballots and of blocks, what is kept of them, and what a run comes to. -/
import Derived.Test.YtlclbdfcniiolaaQ1
import Derived.Test.YtlclbdfcniiolaaHandSt
import Derived.Test.YtlclbdfcniiolaaHandD
namespace Go.Proofs.Ytlclbdfcniiolaa.Hand
open Go.RowKit Go.Proofs.YtlclbdfcniiolaaW.PrintWords Go.Proofs.YtlclbdfcniiolaaW.PrintLast Go.Proofs.YtlclbdfcniiolaaW.PrintMore Go.Proofs.Ytlclbdfcniiolaa.Q
set_option linter.unusedVariables false
set_option linter.unusedSimpArgs false
theorem rp_cells {e base g n cap : Nat} {ok : Nat → Prop} {w : World} {l : List S26} (h : Kd.R k26 e w base ok (.slice (some ⟨g, 0, none⟩) n cap) l) (i : Int) (h0 : 0 ≤ i) (h1 : i < (n : Int)) :
    (w.cell? ⟨g, i.toNat * 8, none⟩ = some (.int .i64 (rd_T26 l i).f0) ∧ w.cell? ⟨g, i.toNat * 8 + 1, none⟩ = some (.int .i64 (rd_T26 l i).f1) ∧ w.cell? ⟨g, i.toNat * 8 + 2, none⟩ = some (.int .i64 (rd_T26 l i).f2) ∧ w.cell? ⟨g, i.toNat * 8 + 3, none⟩ = some (.int .i64 (rd_T26 l i).f3) ∧ w.cell? ⟨g, i.toNat * 8 + 4, none⟩ = some (.int .i64 (rd_T26 l i).f4) ∧ w.cell? ⟨g, i.toNat * 8 + 5, none⟩ = some (.int .i64 (rd_T26 l i).f5) ∧ w.cell? ⟨g, i.toNat * 8 + 6, none⟩ = some (.int .i64 (rd_T26 l i).f6) ∧ w.cell? ⟨g, i.toNat * 8 + 7, none⟩ = some (.int .i64 (rd_T26 l i).f7)) ∧ w.frozen? ⟨g, i.toNat * 8, none⟩ = false ∧ w.frozen? ⟨g, i.toNat * 8 + 1, none⟩ = false ∧ w.frozen? ⟨g, i.toNat * 8 + 2, none⟩ = false ∧ w.frozen? ⟨g, i.toNat * 8 + 3, none⟩ = false ∧ w.frozen? ⟨g, i.toNat * 8 + 4, none⟩ = false ∧ w.frozen? ⟨g, i.toNat * 8 + 5, none⟩ = false ∧ w.frozen? ⟨g, i.toNat * 8 + 6, none⟩ = false ∧ w.frozen? ⟨g, i.toNat * 8 + 7, none⟩ = false := by
  obtain ⟨c, hcl, hM, hcc, hfr⟩ := Kd.R_elem h z26 i h0 h1
  obtain rfl := k26_openM hM
  exact ⟨⟨hcc 0 _ rfl, hcc 1 _ rfl, hcc 2 _ rfl, hcc 3 _ rfl, hcc 4 _ rfl, hcc 5 _ rfl, hcc 6 _ rfl, hcc 7 _ rfl⟩, hfr 0, hfr 1, hfr 2, hfr 3, hfr 4, hfr 5, hfr 6, hfr 7⟩
theorem rp_set {l : List S26} {i : Int} {x : S26} (h0 : 0 ≤ i) (h1 : i < (l.length : Int)) : rd_T26 (l.set i.toNat x) i = x := by
  have hn : i.toNat < l.length := by omega
  simp [rd_T26, List.getD_eq_getElem?_getD, hn]
theorem rp_cells_set {e base g n cap : Nat} {ok : Nat → Prop} {w : World} {l l' : List S26} {i : Int} {x : S26} (h : Kd.R k26 e w base ok (.slice (some ⟨g, 0, none⟩) n cap) l') (hl : l' = l.set i.toNat x) (h0 : 0 ≤ i) (h1 : i < (n : Int)) :
    (w.cell? ⟨g, i.toNat * 8, none⟩ = some (.int .i64 x.f0) ∧ w.cell? ⟨g, i.toNat * 8 + 1, none⟩ = some (.int .i64 x.f1) ∧ w.cell? ⟨g, i.toNat * 8 + 2, none⟩ = some (.int .i64 x.f2) ∧ w.cell? ⟨g, i.toNat * 8 + 3, none⟩ = some (.int .i64 x.f3) ∧ w.cell? ⟨g, i.toNat * 8 + 4, none⟩ = some (.int .i64 x.f4) ∧ w.cell? ⟨g, i.toNat * 8 + 5, none⟩ = some (.int .i64 x.f5) ∧ w.cell? ⟨g, i.toNat * 8 + 6, none⟩ = some (.int .i64 x.f6) ∧ w.cell? ⟨g, i.toNat * 8 + 7, none⟩ = some (.int .i64 x.f7)) ∧ w.frozen? ⟨g, i.toNat * 8, none⟩ = false ∧ w.frozen? ⟨g, i.toNat * 8 + 1, none⟩ = false ∧ w.frozen? ⟨g, i.toNat * 8 + 2, none⟩ = false ∧ w.frozen? ⟨g, i.toNat * 8 + 3, none⟩ = false ∧ w.frozen? ⟨g, i.toNat * 8 + 4, none⟩ = false ∧ w.frozen? ⟨g, i.toNat * 8 + 5, none⟩ = false ∧ w.frozen? ⟨g, i.toNat * 8 + 6, none⟩ = false ∧ w.frozen? ⟨g, i.toNat * 8 + 7, none⟩ = false := by
  have hn := (Kd.R_reads' h).1
  rw [hl, List.length_set] at hn
  have hq := rp_cells h i h0 h1
  rw [hl, rp_set h0 (by omega)] at hq
  exact hq
theorem rp_write {base g n cap : Nat} {ok : Nat → Prop} {w : World} {l : List S26} (h : Kd.R k26 26 w base ok (.slice (some ⟨g, 0, none⟩) n cap) l) (i : Int) (h0 : 0 ≤ i) (h1 : i < (n : Int)) (x : S26) :
    Kd.R k26 26 ((((((((w.setCell ⟨g, i.toNat * 8, none⟩ (.int .i64 x.f0)).setCell ⟨g, i.toNat * 8 + 1, none⟩ (.int .i64 x.f1)).setCell ⟨g, i.toNat * 8 + 2, none⟩ (.int .i64 x.f2)).setCell ⟨g, i.toNat * 8 + 3, none⟩ (.int .i64 x.f3)).setCell ⟨g, i.toNat * 8 + 4, none⟩ (.int .i64 x.f4)).setCell ⟨g, i.toNat * 8 + 5, none⟩ (.int .i64 x.f5)).setCell ⟨g, i.toNat * 8 + 6, none⟩ (.int .i64 x.f6)).setCell ⟨g, i.toNat * 8 + 7, none⟩ (.int .i64 x.f7)) base ok (.slice (some ⟨g, 0, none⟩) n cap) (l.set i.toNat x) := by
  obtain ⟨c, hcl, hM, hcc, hfr⟩ := Kd.R_elem h z26 i h0 h1
  have hm := (Kd.R_seg h i h0 h1 (c := c) (seg := [Value.int .i64 x.f0, Value.int .i64 x.f1, Value.int .i64 x.f2, Value.int .i64 x.f3, Value.int .i64 x.f4, Value.int .i64 x.f5, Value.int .i64 x.f6, Value.int .i64 x.f7]) (j := 0) (okp := fun k => ok k ∧ k ≠ g) hcl hcc (Nat.le_refl 8) (x' := x) (by
    have e : c.take 0 ++ [Value.int .i64 x.f0, Value.int .i64 x.f1, Value.int .i64 x.f2, Value.int .i64 x.f3, Value.int .i64 x.f4, Value.int .i64 x.f5, Value.int .i64 x.f6, Value.int .i64 x.f7] ++ c.drop (0 + [Value.int .i64 x.f0, Value.int .i64 x.f1, Value.int .i64 x.f2, Value.int .i64 x.f3, Value.int .i64 x.f4, Value.int .i64 x.f5, Value.int .i64 x.f6, Value.int .i64 x.f7].length) = [Value.int .i64 x.f0, Value.int .i64 x.f1, Value.int .i64 x.f2, Value.int .i64 x.f3, Value.int .i64 x.f4, Value.int .i64 x.f5, Value.int .i64 x.f6, Value.int .i64 x.f7] := by
      rw [List.drop_of_length_le (by rw [hcl]; exact Nat.le_refl 8)]
      simp
    rw [e]
    exact k26_mkM _ _ _ _) (fun _ hk => hk)).1
  exact hm
/-- The memory of a run: its blocks, its ballots, all else as it was. -/
def RW (w W : World) (gb gp : Nat) (ps : List S26) (bl : List S53) : Prop :=
  Below w.heap.size w W ∧ Kd.R k53 53 W w.heap.size (fun k => k = gb) (.slice (some ⟨gb, 0, none⟩) 4 4) bl ∧ Kd.R k26 26 W w.heap.size (fun k => k = gp) (.slice (some ⟨gp, 0, none⟩) 4 4) ps
theorem RW.below {w W W' : World} {gb gp : Nat} {ps : List S26} {bl : List S53} (h : RW w W gb gp ps bl) (hb : Below W.heap.size W W') : RW w W' gb gp ps bl := ⟨below_step h.1 hb, Kd.R_below h.2.1 hb, Kd.R_below h.2.2 hb⟩
theorem RW.write {w W : World} {gb gp : Nat} {ps : List S26} {bl : List S53} (h : RW w W gb gp ps bl) (hne : gb ≠ gp) (hg : w.heap.size ≤ gp) (i : Int) (h0 : 0 ≤ i) (h1 : i < 4) (x : S26) : RW w ((((((((W.setCell ⟨gp, i.toNat * 8, none⟩ (.int .i64 x.f0)).setCell ⟨gp, i.toNat * 8 + 1, none⟩ (.int .i64 x.f1)).setCell ⟨gp, i.toNat * 8 + 2, none⟩ (.int .i64 x.f2)).setCell ⟨gp, i.toNat * 8 + 3, none⟩ (.int .i64 x.f3)).setCell ⟨gp, i.toNat * 8 + 4, none⟩ (.int .i64 x.f4)).setCell ⟨gp, i.toNat * 8 + 5, none⟩ (.int .i64 x.f5)).setCell ⟨gp, i.toNat * 8 + 6, none⟩ (.int .i64 x.f6)).setCell ⟨gp, i.toNat * 8 + 7, none⟩ (.int .i64 x.f7)) gb gp (ps.set i.toNat x) bl :=
  ⟨((((((((h.1.setCell hg _).setCell hg _).setCell hg _).setCell hg _).setCell hg _).setCell hg _).setCell hg _).setCell hg _),
   Kd.R_far (Kd.R_far (Kd.R_far (Kd.R_far (Kd.R_far (Kd.R_far (Kd.R_far (Kd.R_far (h.2.1) (fun k hk => by show k ≠ _; dsimp only; omega) _) (fun k hk => by show k ≠ _; dsimp only; omega) _) (fun k hk => by show k ≠ _; dsimp only; omega) _) (fun k hk => by show k ≠ _; dsimp only; omega) _) (fun k hk => by show k ≠ _; dsimp only; omega) _) (fun k hk => by show k ≠ _; dsimp only; omega) _) (fun k hk => by show k ≠ _; dsimp only; omega) _) (fun k hk => by show k ≠ _; dsimp only; omega) _,
   rp_write h.2.2 i h0 h1 x⟩
theorem RW.step {w W W' : World} {gb gp : Nat} {ps : List S26} {bl bl' : List S53} (h : RW w W gb gp ps bl) (hne : gb ≠ gp) (hr : Kd.R k53 53 W' w.heap.size (fun k => k = gb ∨ W.heap.size ≤ k) (.slice (some ⟨gb, 0, none⟩) 4 4) bl') (hb : Below w.heap.size w W') (hk : Kept W W' (fun k => k = gb)) : RW w W' gb gp ps bl' :=
  ⟨hb, Kd.R_reok rfl hr (fun k e => by simpa [Value.ownBlock] using e.symm), Kd.R_kept h.2.2 hk (fun k hk' hx => by omega)⟩
theorem make_blocks {w : World} {g : Nat} (hg : w.heap.size ≤ g) {W : World} (h : W.heap[g]? = some (.cells #[Value.int .i64 0, Value.int .i64 0, Value.int .i64 0, Value.int .i64 0, Value.int .i64 0, Value.int .i64 0, Value.int .i64 0, Value.int .i64 0, Value.int .i64 0, Value.int .i64 0, Value.int .i64 0, Value.int .i64 0, Value.int .i64 0, Value.int .i64 0, Value.int .i64 0, Value.int .i64 0] 53 (0, 0))) : Kd.R k53 53 W w.heap.size (fun k => k = g) (.slice (some ⟨g, 0, none⟩) 4 4) (List.replicate 4 z53) := by
  refine ⟨fun k e => by simpa [Value.ownBlock] using e.symm, [Value.int .i64 0, Value.int .i64 0, Value.int .i64 0, Value.int .i64 0, Value.int .i64 0, Value.int .i64 0, Value.int .i64 0, Value.int .i64 0, Value.int .i64 0, Value.int .i64 0, Value.int .i64 0, Value.int .i64 0, Value.int .i64 0, Value.int .i64 0, Value.int .i64 0, Value.int .i64 0], ⟨rfl, .inr ⟨g, 4, _, rfl, hg, h, Nat.le_refl _, by decide, rfl, rfl⟩⟩, rfl, fun j p hj => ?_⟩
  have hj4 : j < 4 := by
    have := (List.getElem?_eq_some_iff.1 hj).1
    simpa using this
  have hp : p = z53 := by
    rw [List.getElem?_replicate, if_pos hj4] at hj
    exact (Option.some.inj hj).symm
  subst hp
  have e : ([Value.int .i64 0, Value.int .i64 0, Value.int .i64 0, Value.int .i64 0, Value.int .i64 0, Value.int .i64 0, Value.int .i64 0, Value.int .i64 0, Value.int .i64 0, Value.int .i64 0, Value.int .i64 0, Value.int .i64 0, Value.int .i64 0, Value.int .i64 0, Value.int .i64 0, Value.int .i64 0].drop (j * 4)).take 4 = ([.int .i64 0, .int .i64 0, .int .i64 0, .int .i64 0] : List Value) := by
    have : j = 0 ∨ j = 1 ∨ j = 2 ∨ j = 3 := by omega
    rcases this with rfl | rfl | rfl | rfl <;> rfl
  have hk := k53_mkM W w.heap.size (fun k => k = g ∧ some k ≠ (Value.slice (some ⟨g, 0, none⟩) 4 4).ownBlock) z53
  show k53.M W w.heap.size _ z53 (List.take 4 (List.drop (j * 4) _))
  rw [e]
  exact hk
theorem make_ballots {w : World} {g : Nat} (hg : w.heap.size ≤ g) {W : World} (h : W.heap[g]? = some (.cells #[Value.int .i64 0, Value.int .i64 0, Value.int .i64 0, Value.int .i64 0, Value.int .i64 0, Value.int .i64 0, Value.int .i64 0, Value.int .i64 0, Value.int .i64 0, Value.int .i64 0, Value.int .i64 0, Value.int .i64 0, Value.int .i64 0, Value.int .i64 0, Value.int .i64 0, Value.int .i64 0, Value.int .i64 0, Value.int .i64 0, Value.int .i64 0, Value.int .i64 0, Value.int .i64 0, Value.int .i64 0, Value.int .i64 0, Value.int .i64 0, Value.int .i64 0, Value.int .i64 0, Value.int .i64 0, Value.int .i64 0, Value.int .i64 0, Value.int .i64 0, Value.int .i64 0, Value.int .i64 0] 26 (0, 0))) : Kd.R k26 26 W w.heap.size (fun k => k = g) (.slice (some ⟨g, 0, none⟩) 4 4) (List.replicate 4 z26) := by
  refine ⟨fun k e => by simpa [Value.ownBlock] using e.symm, [Value.int .i64 0, Value.int .i64 0, Value.int .i64 0, Value.int .i64 0, Value.int .i64 0, Value.int .i64 0, Value.int .i64 0, Value.int .i64 0, Value.int .i64 0, Value.int .i64 0, Value.int .i64 0, Value.int .i64 0, Value.int .i64 0, Value.int .i64 0, Value.int .i64 0, Value.int .i64 0, Value.int .i64 0, Value.int .i64 0, Value.int .i64 0, Value.int .i64 0, Value.int .i64 0, Value.int .i64 0, Value.int .i64 0, Value.int .i64 0, Value.int .i64 0, Value.int .i64 0, Value.int .i64 0, Value.int .i64 0, Value.int .i64 0, Value.int .i64 0, Value.int .i64 0, Value.int .i64 0], ⟨rfl, .inr ⟨g, 4, _, rfl, hg, h, Nat.le_refl _, by decide, rfl, rfl⟩⟩, rfl, fun j p hj => ?_⟩
  have hj4 : j < 4 := by
    have := (List.getElem?_eq_some_iff.1 hj).1
    simpa using this
  have hp : p = z26 := by
    rw [List.getElem?_replicate, if_pos hj4] at hj
    exact (Option.some.inj hj).symm
  subst hp
  have e : ([Value.int .i64 0, Value.int .i64 0, Value.int .i64 0, Value.int .i64 0, Value.int .i64 0, Value.int .i64 0, Value.int .i64 0, Value.int .i64 0, Value.int .i64 0, Value.int .i64 0, Value.int .i64 0, Value.int .i64 0, Value.int .i64 0, Value.int .i64 0, Value.int .i64 0, Value.int .i64 0, Value.int .i64 0, Value.int .i64 0, Value.int .i64 0, Value.int .i64 0, Value.int .i64 0, Value.int .i64 0, Value.int .i64 0, Value.int .i64 0, Value.int .i64 0, Value.int .i64 0, Value.int .i64 0, Value.int .i64 0, Value.int .i64 0, Value.int .i64 0, Value.int .i64 0, Value.int .i64 0].drop (j * 8)).take 8 = ([Value.int .i64 0, Value.int .i64 0, Value.int .i64 0, Value.int .i64 0, Value.int .i64 0, Value.int .i64 0, Value.int .i64 0, Value.int .i64 0] : List Value) := by
    have : j = 0 ∨ j = 1 ∨ j = 2 ∨ j = 3 := by omega
    rcases this with rfl | rfl | rfl | rfl <;> rfl
  have hk := k26_mkM W w.heap.size (fun k => k = g ∧ some k ≠ (Value.slice (some ⟨g, 0, none⟩) 4 4).ownBlock) z26
  show k26.M W w.heap.size _ z26 (List.take 8 (List.drop (j * 8) _))
  rw [e]
  exact hk
theorem rp_first (w : World) (a b : Obj) : ((w.alloc a).alloc b).heap[w.heap.size]? = some a := blk_alloc (blk_new w a) b
theorem rp_second (w : World) (a b : Obj) : ((w.alloc a).alloc b).heap[w.heap.size + 1]? = some b := by
  have h := blk_new (w.alloc a) b
  have e : (w.alloc a).heap.size = w.heap.size + 1 := by simp
  rw [e] at h
  exact h
theorem rp_below (w : World) (a b : Obj) : Below w.heap.size w ((w.alloc a).alloc b) := below_alloc (below_alloc (Below.refl _ _) a) b
theorem rp_keep1 {W : World} {a p : Addr} {u v : Value} (h : W.cell? a = some v) (hne : a.block ≠ p.block) : (W.setCell p u).cell? a = some v := (World.cell?_of_block (w := W) (Below.heap_setCell W p u a.block hne)).trans h
theorem rp_keep8 {W : World} {a : Addr} {gp : Nat} {i : Nat} {v u0 u1 u2 u3 u4 u5 u6 u7 : Value} (h : W.cell? a = some v) (hne : a.block ≠ gp) : (((((((((W.setCell ⟨gp, i * 8, none⟩ u0).setCell ⟨gp, i * 8 + 1, none⟩ u1).setCell ⟨gp, i * 8 + 2, none⟩ u2).setCell ⟨gp, i * 8 + 3, none⟩ u3).setCell ⟨gp, i * 8 + 4, none⟩ u4).setCell ⟨gp, i * 8 + 5, none⟩ u5).setCell ⟨gp, i * 8 + 6, none⟩ u6).setCell ⟨gp, i * 8 + 7, none⟩ u7)).cell? a = some v :=
  rp_keep1 (rp_keep1 (rp_keep1 (rp_keep1 (rp_keep1 (rp_keep1 (rp_keep1 (rp_keep1 h hne) hne) hne) hne) hne) hne) hne) hne
theorem RW.made {w W : World} {gb gp : Nat} (hb : Below w.heap.size w W) (h1 : w.heap.size ≤ gb) (h2 : w.heap.size ≤ gp) (e1 : W.heap[gb]? = some (.cells #[Value.int .i64 0, Value.int .i64 0, Value.int .i64 0, Value.int .i64 0, Value.int .i64 0, Value.int .i64 0, Value.int .i64 0, Value.int .i64 0, Value.int .i64 0, Value.int .i64 0, Value.int .i64 0, Value.int .i64 0, Value.int .i64 0, Value.int .i64 0, Value.int .i64 0, Value.int .i64 0] 53 (0, 0))) (e2 : W.heap[gp]? = some (.cells #[Value.int .i64 0, Value.int .i64 0, Value.int .i64 0, Value.int .i64 0, Value.int .i64 0, Value.int .i64 0, Value.int .i64 0, Value.int .i64 0, Value.int .i64 0, Value.int .i64 0, Value.int .i64 0, Value.int .i64 0, Value.int .i64 0, Value.int .i64 0, Value.int .i64 0, Value.int .i64 0, Value.int .i64 0, Value.int .i64 0, Value.int .i64 0, Value.int .i64 0, Value.int .i64 0, Value.int .i64 0, Value.int .i64 0, Value.int .i64 0, Value.int .i64 0, Value.int .i64 0, Value.int .i64 0, Value.int .i64 0, Value.int .i64 0, Value.int .i64 0, Value.int .i64 0, Value.int .i64 0] 26 (0, 0))) : RW w W gb gp (List.replicate 4 z26) (List.replicate 4 z53) :=
  ⟨hb, make_blocks h1 e1, make_ballots h2 e2⟩
theorem RW.grown {w W W' : World} {gb gp : Nat} {ps : List S26} {bl : List S53} {u : Value} {xs : List Int} {ok : Nat → Prop} (h : RW w W gb gp ps bl) (ho : Kd.R (Kd.int .i64) 3 W w.heap.size ok u xs) (hb : Below w.heap.size w W') (hg : W.grownBy W' u.ownBlock) : RW w W' gb gp ps bl :=
  ⟨hb, Kd.R_over' h.2.1 (Kd.R_typed ho) (by decide) hg, Kd.R_over' h.2.2 (Kd.R_typed ho) (by decide) hg⟩
/-! what a run comes to -/
def rpCode (l0 l1 : List Int) : Int := if (l0.length : Int) > 4096 ∨ (l1.length : Int) > 4096 then 2 else if (l0.length : Int) = 4 ∧ l0.all fn_isNumber.p = true then (if l1.all fn_isHost.p = true then 0 else 4) else 1
theorem rpCode_zero (l0 l1 : List Int) : rpCode l0 l1 = 0 → l0.length = 4 ∧ (∀ x ∈ l1, 0 ≤ x ∧ x < 4) ∧ l1.length ≤ 4096 := by
  unfold rpCode
  intro h
  split at h
  · exact absurd h (by decide)
  rename_i h1
  split at h
  · rename_i h2
    split at h
    · rename_i h3
      refine ⟨by omega, fun x hx => ?_, by omega⟩
      have := List.all_eq_true.1 h3 x hx
      simp [fn_isHost] at this
      omega
    · exact absurd h (by decide)
  · exact absurd h (by decide)
def rpBegin (k : Nat) (l0 : List Int) (h : Int) (ps : List S26) (bl : List S53) : Option (List S26) :=
  if (rd_T26 ps h).f2 = 0 ∨ (rd_T26 ps h).f2 = 6 then (impl_nextBallot.f k h 0 bl).bind fun n => (impl_PxStart.f h 0 n (rd l0 h)).bind fun q => some (ps.set h.toNat ⟨q.1, q.2.1, q.2.2.1, q.2.2.2.1, q.2.2.2.2.1, q.2.2.2.2.2.1, q.2.2.2.2.2.2.1, q.2.2.2.2.2.2.2.1⟩) else some ps
def rpMove (h : Int) (ps : List S26) (bl : List S53) : Option (List S26 × List S53) :=
  if (rd_T26 ps h).f2 = 5 ∨ (rd_T26 ps h).f2 = 6 then some (ps, bl)
  else (impl_Px_step.f (rd_T26 ps h).f0 (rd_T26 ps h).f1 (rd_T26 ps h).f2 (rd_T26 ps h).f3 (rd_T26 ps h).f4 (rd_T26 ps h).f5 (rd_T26 ps h).f6 (rd_T26 ps h).f7 bl).bind fun q => some (ps.set h.toNat ⟨q.1, q.2.1, q.2.2.1, q.2.2.2.1, q.2.2.2.2.1, q.2.2.2.2.2.1, q.2.2.2.2.2.2.1, q.2.2.2.2.2.2.2.1⟩, q.2.2.2.2.2.2.2.2)
theorem rpBegin_length {k : Nat} {l0 : List Int} {h : Int} {ps p : List S26} {bl : List S53} (e : rpBegin k l0 h ps bl = some p) : p.length = ps.length := by
  unfold rpBegin at e
  split at e
  · obtain ⟨n, _, e⟩ := Option.bind_eq_some_iff.mp e
    obtain ⟨q, _, e⟩ := Option.bind_eq_some_iff.mp e
    rw [← Option.some.inj e]
    simp
  · rw [← Option.some.inj e]
theorem rpStep_length {a0 a1 a2 a3 a4 a5 a6 a7 : Int} {l : List S53} {q : Int × Int × Int × Int × Int × Int × Int × Int × List S53} (e : impl_Px_step.f a0 a1 a2 a3 a4 a5 a6 a7 l = some q) : q.2.2.2.2.2.2.2.2.length = l.length := by
  unfold impl_Px_step.f at e
  split at e
  · rw [← Option.some.inj e]
    unfold impl_Px_step.g
    have hw : ∀ p, (pxWrite a0 a1 p a3 a4 a5 a6 a7 l).2.2.2.2.2.2.2.2.length = l.length := by
      intro p
      unfold pxWrite pxWriteD
      split <;> split <;> simp
    split
    · exact hw 1
    · split
      · exact hw 3
      · rfl
  · cases e
theorem rpMove_length {h : Int} {ps p : List S26} {bl b : List S53} (e : rpMove h ps bl = some (p, b)) : p.length = ps.length ∧ b.length = bl.length := by
  unfold rpMove at e
  split at e
  · have e := Option.some.inj e
    simp only [Prod.mk.injEq] at e
    rw [e.1, e.2]
    exact ⟨rfl, rfl⟩
  · obtain ⟨q, hq, e⟩ := Option.bind_eq_some_iff.mp e
    have e := Option.some.inj e
    simp only [Prod.mk.injEq] at e
    rw [← e.1, ← e.2]
    exact ⟨by simp, rpStep_length hq⟩
def rpRun (k : Nat) (l0 : List Int) : List Int → List S26 → List S53 → Option (List S26 × List S53)
  | [], ps, bl => some (ps, bl)
  | h :: t, ps, bl => (rpBegin k l0 h ps bl).bind fun p => (rpMove h p bl).bind fun r => rpRun k l0 t r.1 r.2
def rpOne (p : S26) : Int := if p.f2 = 5 then p.f4 else -1
theorem rp_take (ps : List S26) (j : Int) (h0 : 0 ≤ j) (h1 : j < (ps.length : Int)) : (ps.map rpOne).take (j.toNat + 1) = (ps.map rpOne).take j.toNat ++ [rpOne (rd_T26 ps j)] := by
  have hn : j.toNat < ps.length := by omega
  rw [List.take_add_one, List.getElem?_map, List.getElem?_eq_getElem hn]
  simp [rd_T26, List.getD_eq_getElem?_getD, List.getElem?_eq_getElem hn]
def impl_RunPaxos.f (k : Nat) (l0 l1 : List Int) : Option (List Int × List S53 × Int) :=
  if rpCode l0 l1 = 0 then (rpRun k l0 l1 (List.replicate 4 z26) (List.replicate 4 z53)).bind fun r => some (r.1.map rpOne, r.2, 0) else some ([], [], rpCode l0 l1)
theorem rpBegin.mono (k : Nat) (l0 : List Int) (h : Int) (ps : List S26) (bl : List S53) : LeO (rpBegin k l0 h ps bl) (rpBegin (k + 1) l0 h ps bl) := by
  unfold rpBegin
  exact LeO.ite (LeO.bind (impl_nextBallot.mono _ _ _ _) (fun _ => LeO.refl _)) (LeO.refl _)
theorem rpRun.mono (k : Nat) (l0 : List Int) : ∀ (t : List Int) (ps : List S26) (bl : List S53), LeO (rpRun k l0 t ps bl) (rpRun (k + 1) l0 t ps bl) := by
  intro t
  induction t with
  | nil => intro ps bl; exact LeO.refl _
  | cons h t ih => intro ps bl; exact LeO.bind (rpBegin.mono k l0 h ps bl) (fun _ => LeO.bind (LeO.refl _) (fun _ => ih _ _))
theorem impl_RunPaxos.mono : ∀ a0 a1 k, LeO (impl_RunPaxos.f k a0 a1) (impl_RunPaxos.f (k + 1) a0 a1) := by
  intro a0 a1 k
  unfold impl_RunPaxos.f
  exact LeO.ite (LeO.bind (rpRun.mono k a0 a1 _ _) (fun _ => LeO.refl _)) (LeO.refl _)
end Go.Proofs.Ytlclbdfcniiolaa.Hand
