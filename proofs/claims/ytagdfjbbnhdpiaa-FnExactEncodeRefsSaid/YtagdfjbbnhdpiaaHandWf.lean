/- slices.Backward: what it hands back, as an iterator whose rounds come from the last place to the first, each with its place in the list; for every slice of numbers. -/
import Derived.Test.YtagdfjbbnhdpiaaHandA
import Derived.RangeFuncNested
import Derived.RangeFuncBound
import Derived.RangeFuncCalls
import Derived.RangeFuncLeaves
import Derived.Shelf.Abstract
import Derived.Shelf.RegionOpen
import Derived.WalkKit
import Derived.OwnWalkIn
import Derived.TacticsInMore
import Derived.LoopNIn
import Derived.LoopIn
namespace Go.Proofs.Ytagdfjbbnhdpiaa.Hand
open Go.RowKit Go.Shelf Go.Proofs.YtagdfjbbnhdpiaaW.PrintWords Go.Proofs.YtagdfjbbnhdpiaaW.PrintLast Go.Proofs.YtagdfjbbnhdpiaaW.PrintMore
set_option linter.unusedVariables false
set_option linter.unusedSimpArgs false
attribute [local go_sem] Oper.semAt_some
/-- What a round that goes on keeps: what lay below n₀, and the iterator's own box. -/
def KB (n₀ Bs : Nat) (A B : World) : Prop := Below n₀ A B ∧ ∀ v, A.cell? ⟨Bs, 0, none⟩ = some v → B.cell? ⟨Bs, 0, none⟩ = some v
theorem KB.refl (n₀ Bs : Nat) (A : World) : KB n₀ Bs A A := ⟨Below.refl _ _, fun _ h => h⟩
theorem KB.trans {n₀ Bs : Nat} {A B C : World} (h : KB n₀ Bs A B) (k : KB n₀ Bs B C) : KB n₀ Bs A C := ⟨h.1.trans k.1, fun v hv => k.2 v (h.2 v hv)⟩
theorem kb_t {n₀ Bs : Nat} {A B C : World} (h : KB n₀ Bs A B) (k : KB n₀ Bs B C) : KB n₀ Bs A C := h.trans k
theorem kb_b {n₀ Bs : Nat} {w : World} (hn : n₀ ≤ w.heap.size) (W : World) (l : Nat) (o o' : Obj) (hl : w.heap.size ≤ l) (h : W.heap[l]? = some o) (hc : o.isCells = false) (hw : o.isWalk = false) : KB n₀ Bs W (W.putObj l o') :=
  ⟨belowK_b hn W l o o' hl h hc hw, fun v hv => cell_kept hv (grownBy_putObj' W l o') (fun r e => by cases e; exact ⟨o, h, hc⟩)⟩
/-- What has come when k rounds are over: the last place, the one ahead of it, .. -/
def back (zs : List Int) (k : Nat) : List (Fin zs.length) := (List.ofFn fun j : Fin zs.length => Fin.rev j).take k
theorem rd_fin (zs : List Int) (j : Fin zs.length) : zs[j] = rd zs ((j : Nat) : Int) := by
  simp [rd, List.getD_eq_getElem?_getD]
theorem back_succ (zs : List Int) (k : Nat) (hk : k < zs.length) : back zs (k + 1) = back zs k ++ [Fin.rev ⟨k, hk⟩] := by
  unfold back
  rw [List.take_add_one, List.getElem?_ofFn, dif_pos hk]
  rfl
theorem back_length (zs : List Int) (k : Nat) (hk : k ≤ zs.length) : (back zs k).length = k := by simp [back]; omega
set_option maxRecDepth 100000 in
set_option maxHeartbeats 4000000 in
theorem back1_in (F : Fence) (n : Nat) (hf : F.fn 91) (hro : F.round = none) (hn : 1 ≤ n) (l Bs : Nat) (w0 : World) (A : Option Addr) (cap : Nat) (zs : List Int) (hr : Kd.C (Kd.int .i64) w0 A zs.length zs) (J Jx : List (Fin zs.length) → World → Prop)
    (hY : ∀ (pre : List (Fin zs.length)) (x : Fin zs.length) (W : World), J pre W → pre.length < zs.length → YieldAt F (n - 1) Try.prog l #[.int .i64 ((x : Nat) : Int), .int .i64 zs[x]] W fun e W' =>
      (e = .returned (.bool true) ∧ J (pre ++ [x]) W' ∧ KB w0.heap.size Bs W W') ∨ (e = .returned (.bool false) ∧ Jx (pre ++ [x]) W'))
    (W : World) (hW : Below w0.heap.size w0 W) (hBs : W.cell? ⟨Bs, 0, none⟩ = some (.slice A zs.length cap)) (h0 : J [] W) :
    CallsIn F n Try.prog 91 #[.func (.yield l) #[] #[], .pointer (some ⟨Bs, 0, none⟩)] W fun e W' => (∃ v, e = .returned v) ∧
      ((∃ ys, ys = back zs zs.length ∧ J ys W') ∨ (∃ pre, (∃ k, k ≤ zs.length ∧ pre = back zs k) ∧ Jx pre W')) := by
  have hm := hr.2.1
  have hC : ∀ wr, Below w0.heap.size W wr → Kd.C (Kd.int .i64) wr A zs.length zs := fun wr h => Kd.C_below hr (hW.trans h)
  skip
  have HY := Aside0.mk hY
  have HC := Aside0.mk hC
  clear hY hC hr
  refine callsIn_of_wp Try.func91 rfl hf ?_ hro
  simp only [Try.ntmps91, List.size_toArray, List.length_cons, List.length_nil, Nat.reduceAdd, Nat.reduceSub, Array.replicate_succ, Array.replicate_zero, List.push_toArray, List.append_toArray, List.nil_append, List.cons_append]
  gi_wp2
  gi_loopw [3] (fun v wr => ∃ k : Nat, k ≤ zs.length ∧ v = .int .i64 ((zs.length : Int) - 1 - (k : Int)) ∧ J (back zs k) wr ∧ KB w0.heap.size Bs W wr)
    (fun v _ => ((intOf v) + 1).toNat)
  case atStart => exact ⟨0, Nat.zero_le _, by first | (go_num; done) | (simp; done) | (simp; unfold wrap64; omega), h0, KB.refl _ _ _⟩
  case round =>
    obtain ⟨k, hk, rfl, hJs, hnx⟩ := hrel
    have hbox := hnx.2 _ hBs
    by_cases hlt : k < zs.length
    · obtain ⟨fn, tmps, assign, body, hy, hR⟩ := HY.out (back zs k) (Fin.rev ⟨k, hlt⟩) wr hJs (by rw [back_length zs k hk]; exact hlt)
      have hC := HC.out
      obtain ⟨i, hi⟩ : ∃ i, (zs.length : Int) - 1 - (k : Int) = i := ⟨_, rfl⟩
      have hv : (((Fin.rev ⟨k, hlt⟩ : Fin zs.length) : Nat) : Int) = i := by rw [Fin.val_rev]; simp only []; omega
      have hz : zs[Fin.rev ⟨k, hlt⟩] = rd zs i := (rd_fin zs _).trans (by rw [hv])
      rw [hv, hz] at hy
      rw [hi]
      have hi0 : 0 ≤ i := by omega
      have hi1 : i < (zs.length : Int) := by omega
      obtain ⟨ad, e, hx0⟩ := Kd.at_int (hC wr hnx.1) i hi0 hi1
      cases e
      have hge : decide (i ≥ 0) = true := decide_eq_true hi0
      have hge' : decide (0 ≤ i) = true := decide_eq_true hi0
      have p1 : (0 ≤ i) = True := eq_true hi0
      have q1 : (i < (zs.length : Int)) = True := eq_true hi1
      gi_wp2
      refine hR.mono ?_
      rintro e W3 (⟨rfl, hJ3, hk3⟩ | ⟨rfl, hJx3⟩)
      · gi_wp2
        go_roundw
        case rel => exact ⟨k + 1, by omega, by subst hi; first | (go_num; done) | (simp; done) | (congr 1; unfold wrap64; omega), by rw [back_succ zs k hlt]; exact hJ3, hnx.trans hk3⟩
        case measure => first | (simp [intOf]; omega) | (simp [intOf]; unfold wrap64; omega)
      · gi_wp2
        refine bodyPost_ret (results_none rfl _ _ _) rfl ?_
        exact ⟨⟨_, rfl⟩, .inr ⟨_, ⟨k + 1, by omega, by rw [back_succ zs k hlt]⟩, hJx3⟩⟩
    · obtain rfl : k = zs.length := by omega
      have hneg : (zs.length : Int) - 1 - (zs.length : Int) = -1 := by omega
      rw [hneg]
      gi_wp2
      go_end0
      exact ⟨⟨_, rfl⟩, .inl ⟨_, rfl, hJs⟩⟩
set_option maxHeartbeats 1000000 in
theorem back_in (F : Fence) (n : Nat) (h5 : F.fn 88) (hro : F.round = none) (a : Option Addr) (len cap : Nat) (w : World) :
    CallsIn F n Try.prog 88 #[.slice a len cap] w fun e w' => e = .returned (.func (.func 91) #[] #[.pointer (some ⟨w.heap.size, 0, none⟩)]) ∧ w' = w.alloc (.cells #[.slice a len cap] 22) := by
  refine callsIn_of_wp Try.func88 rfl h5 ?_ hro
  simp only [Try.ntmps88, List.size_toArray, List.length_cons, List.length_nil, Nat.reduceAdd, Nat.reduceSub, Array.replicate_succ, Array.replicate_zero, List.push_toArray, List.append_toArray, List.nil_append, List.cons_append]
  gi_wp2
  go_ret
  exact ⟨rfl, rfl⟩
theorem back_stops (F : Fence) (n : Nat) (hf : F.fn 91) (hro : F.round = none) (hn : 1 ≤ n) (Bs : Nat) (w0 : World) (A : Option Addr) (cap : Nat) (zs : List Int) (hr : Kd.C (Kd.int .i64) w0 A zs.length zs) (w : World) (hw : Below w0.heap.size w0 w) (hBs : Bs < w.heap.size)
    (hc : w.cell? ⟨Bs, 0, none⟩ = some (.slice A zs.length cap)) :
    SeqStopsK F n Try.prog 91 #[.pointer (some ⟨Bs, 0, none⟩)] (fun x : Fin zs.length => #[Value.int .i64 ((x : Nat) : Int), Value.int .i64 zs[x]]) (KB w0.heap.size Bs) (fun ys => ys = back zs zs.length)
      (fun pre => ∃ k, k ≤ zs.length ∧ pre = back zs k) zs.length w := fun l J Jx W hW _ _ hY h0 =>
  back1_in F n hf hro hn l Bs w0 A cap zs hr J Jx hY W (hw.trans (hW.mono hw.size)) ((hW.cell (p := ⟨Bs, 0, none⟩) hBs).trans hc) h0
end Go.Proofs.Ytagdfjbbnhdpiaa.Hand
