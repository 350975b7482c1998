/- The program's 'all' over a slice of structs: it tells whether what it is handed holds of each element; for every slice, and every function value that looks at its argument alone. -/
import Derived.Test.YtlclbdfcniiolaaQ0
import Derived.Test.YtlclbdfcniiolaaHandGv
import Derived.Shelf.Abstract
namespace Go.Proofs.Ytlclbdfcniiolaa.Hand
open Go.RowKit Go.Proofs.YtlclbdfcniiolaaW.PrintWords Go.Proofs.YtlclbdfcniiolaaW.PrintLast Go.Proofs.YtlclbdfcniiolaaW.PrintMore Go.Proofs.Ytlclbdfcniiolaa.Q
set_option linter.unusedVariables false
set_option linter.unusedSimpArgs false

theorem rdt_Block (l0 : List S53) (k : Nat) (h : k < l0.length) : rd_T53 l0 (k : Int) = l0[k] := by
  simp [rd_T53, List.getD_eq_getElem?_getD, List.getElem?_eq_getElem h]
def idx_Block (p : S53 → Bool) (l : List S53) : Int := if l.any p = true then (l.findIdx p : Int) else -1
theorem idx_Block_hit {p : S53 → Bool} {l : List S53} {k : Nat} (h : k < l.length) (hp : p l[k] = true) (hb : ∀ j (hj : j < k), p (l[j]'(by omega)) = false) : idx_Block p l = k := by
  unfold idx_Block
  rw [if_pos (List.any_eq_true.2 ⟨l[k], List.getElem_mem h, hp⟩), (List.findIdx_eq h).2 ⟨hp, hb⟩]
theorem idx_Block_miss {p : S53 → Bool} {l : List S53} (hb : ∀ j (hj : j < l.length), p l[j] = false) : idx_Block p l = -1 := by
  unfold idx_Block
  rw [if_neg]
  intro h
  obtain ⟨x, hx, hp⟩ := List.any_eq_true.1 h
  obtain ⟨j, hj, rfl⟩ := List.getElem_of_mem hx
  rw [hb j hj] at hp
  cases hp
theorem idx_Block_pos (p : S53 → Bool) (l : List S53) : decide (0 ≤ idx_Block p l) = l.any p := by
  unfold idx_Block
  cases h : l.any p with
  | true =>
    rw [if_pos rfl]
    exact decide_eq_true (by omega)
  | false =>
    rw [if_neg (by decide)]
    rfl

set_option maxHeartbeats 4000000 in
theorem index_Block (A0 : Option Addr) (c0 : Nat) (l0 : List S53) (G : Nat) (lb : Array Value) (p : S53 → Bool) (w : World) (hr0 : Kd.C k53 w A0 l0.length l0)
    (eg : ∀ (args : Array Value) (w : World), (callFunc G args).run Try.prog w = .ok (.enter G args) w)
    (hp : ∀ (W : World) (x : S53), Below w.heap.size w W → Calls Try.prog G (#[.agg #[.int .i64 (x.f0), .int .i64 (x.f1), .int .i64 (x.f2), .int .i64 (x.f3)]] ++ lb) W fun e w' => e = .returned (.bool (p x)) ∧ Below w.heap.size w w') :
    Calls Try.prog 77 #[.slice A0 l0.length c0, .func (.func G) #[] lb] w fun e w' => e = .returned (.int .i64 (idx_Block p l0)) ∧ Below w.heap.size w w' := by
  have hut := Try.underlying53
  have hm := hr0.2.1
  have HR := Aside0.mk hr0
  have HP := Aside0.mk hp
  clear hr0 hp
  go_enter Try.func77, Try.ntmps77
  go_wp2
  go_loopg [5, 8] l0.length (fun gg _ s8 wr => ∃ k : Nat, k ≤ l0.length ∧ l0.length - k ≤ gg ∧ s8 = .int .i64 k ∧ Aside0 (Below w.heap.size w wr) ∧ Aside0 (∀ j (hj : j < l0.length), j < k → p l0[j] = false))
  case atStart => exact ⟨0, Nat.zero_le _, by omega, rfl, ⟨Below.refl _ w⟩, ⟨fun j _ hj => absurd hj (Nat.not_lt_zero _)⟩⟩
  case round =>
    obtain ⟨k, hk, hg, rfl, BW, NO⟩ := hrel
    by_cases hlt : k < l0.length
    · have hltz : (k : Int) < (l0.length : Int) := by omega
      obtain ⟨ad, e, hx0, hx1, hx2, hx3⟩ := at_T53 (Kd.C_below HR.out BW.out) (k : Int) (by omega) hltz
      have e1 : ((k : Int)).toNat = k := by omega
      rw [rdt_Block l0 k hlt, e1] at hx0 hx1 hx2 hx3
      clear e1
      cases e
      have hcall := HP.out wr l0[k] BW.out
      generalize hy : l0[k] = y at hx0 hx1 hx2 hx3 hcall
      have HY := Aside0.mk hy
      clear hy
      have p123 : (0 ≤ (k : Int)) = True := eq_true (by omega)
      have q123 : ((k : Int) < (l0.length : Int)) = True := eq_true hltz
      cases hq : p y with
      | true =>
        rw [hq] at hcall
        go_wp2_with (go_at_fn G; refine hcall.mono ?_; rintro e w' ⟨rfl, hb'⟩)
        go_ret
        refine ⟨?_, hb'⟩
        have e3 : (k : Int) = idx_Block p l0 := (idx_Block_hit hlt (by rw [HY.out]; exact hq) (fun j hj => NO.out j (by omega) hj)).symm
        exact congrArg (fun z => Ending.returned (.int .i64 z)) e3
      | false =>
        rw [hq] at hcall
        go_wp2_with (go_at_fn G; refine hcall.mono ?_; rintro e w' ⟨rfl, hb'⟩)
        go_roundg (l0.length - (k + 1))
        case measure => omega
        case rel =>
          refine ⟨k + 1, by omega, by omega, by go_num, ⟨hb'⟩, ⟨fun j hj hjk => ?_⟩⟩
          by_cases ej : j = k
          · subst ej
            rw [HY.out]; exact hq
          · exact NO.out j hj (by omega)
    · have hltz : ¬ (k : Int) < (l0.length : Int) := by omega
      obtain rfl : k = l0.length := by omega
      go_wp2
      go_ret
      refine ⟨?_, BW.out⟩
      have e3 : (-1 : Int) = idx_Block p l0 := (idx_Block_miss (fun j hj => NO.out j hj hj)).symm
      exact congrArg (fun z => Ending.returned (.int .i64 z)) e3

set_option maxHeartbeats 1000000 in
theorem contains_Block (A0 : Option Addr) (c0 : Nat) (l0 : List S53) (G : Nat) (lb : Array Value) (p : S53 → Bool) (w : World) (hr0 : Kd.C k53 w A0 l0.length l0)
    (eg : ∀ (args : Array Value) (w : World), (callFunc G args).run Try.prog w = .ok (.enter G args) w)
    (hp : ∀ (W : World) (x : S53), Below w.heap.size w W → Calls Try.prog G (#[.agg #[.int .i64 (x.f0), .int .i64 (x.f1), .int .i64 (x.f2), .int .i64 (x.f3)]] ++ lb) W fun e w' => e = .returned (.bool (p x)) ∧ Below w.heap.size w w') :
    Calls Try.prog 73 #[.slice A0 l0.length c0, .func (.func G) #[] lb] w fun e w' => e = .returned (.bool (l0.any p)) ∧ Below w.heap.size w w' := by
  have HI := Aside0.mk (index_Block A0 c0 l0 G lb p w hr0 eg hp)
  rw [← idx_Block_pos p l0]
  generalize idx_Block p l0 = i at HI ⊢
  clear hr0 eg hp
  go_enter Try.func73, Try.ntmps73
  go_wp2_with (go_at_call 77; refine HI.out.mono ?_; rintro e w' ⟨rfl, hb'⟩)
  go_ret
  exact ⟨rfl, hb'⟩

theorem all_not_Block (p : S53 → Bool) (l : List S53) : (!(l.any fun x => !(p x))) = l.all p := by
  induction l with
  | nil => rfl
  | cons a l ih => simp only [List.any_cons, List.all_cons, ← ih]; cases p a <;> simp

set_option maxHeartbeats 1000000 in
theorem lit_Block (v : FnV53) (B : Nat) (x0 : Int) (x1 : Int) (x2 : Int) (x3 : Int) (w : World) (hc : w.cell? ⟨B, 0, none⟩ = some v.val) :
    Calls Try.prog 74 #[.agg #[.int .i64 x0, .int .i64 x1, .int .i64 x2, .int .i64 x3], .pointer (some ⟨B, 0, none⟩)] w fun e w' => e = .returned (.bool (!(v.p x0 x1 x2 x3))) ∧ Below w.heap.size w w' := by
  have hut := Try.underlying53
  have HL := fun W => v.law x0 x1 x2 x3 W
  have eg := v.enters
  unfold FnV53.val at hc
  generalize v.p x0 x1 x2 x3 = b at HL ⊢
  generalize v.g = G at HL eg hc
  clear v
  have HL := Aside0.mk HL
  have hB := World.block_lt_of_cell? w _ hc
  go_enter Try.func74, Try.ntmps74
  go_wp2_with (go_at_fn G; refine (HL.out _).mono ?_; rintro e w' ⟨rfl, hb'⟩)
  go_ret
  exact ⟨rfl, ((Below.refl _ w).alloc (Nat.le_refl _) _).trans (hb'.mono (by simp))⟩

def impl_all_Block.f (l0 : List S53) (a1 : FnV53) : Option Bool := some (l0.all fun x => a1.p (x.f0) (x.f1) (x.f2) (x.f3))
set_option maxHeartbeats 1000000 in
theorem impl_all_Block.calls (A0 : Option Addr) (c0 : Nat) (l0 : List S53) (a1 : FnV53) (r : Bool) (w : World) (hr0 : Kd.C k53 w A0 l0.length l0) (hc0 : l0.length ≤ c0) (h : impl_all_Block.f l0 a1 = some r) :
    Calls Try.prog 66 #[.slice A0 l0.length c0, a1.val] w fun e w' => e = .returned (.bool r) ∧ Below w.heap.size w w' := by
  obtain rfl := Option.some.inj h
  clear h
  rw [← all_not_Block (fun x => a1.p (x.f0) (x.f1) (x.f2) (x.f3)) l0]
  have HC := Aside0.mk (contains_Block A0 c0 l0 74 #[.pointer (some ⟨w.heap.size, 0, none⟩)] (fun x => !(a1.p (x.f0) (x.f1) (x.f2) (x.f3))) (w.alloc (.cells #[a1.val] 54)) (Kd.C_below hr0 (below_alloc (Below.refl _ _) _))
    (enters_of Try.func74 (by kernel_rfl) rfl)
    (fun W x hb => by
      have hcell : W.cell? ⟨w.heap.size, 0, none⟩ = some a1.val := (hb.cell (p := ⟨w.heap.size, 0, none⟩) (by simp)).trans (by simp)
      refine (lit_Block a1 w.heap.size (x.f0) (x.f1) (x.f2) (x.f3) W hcell).mono ?_
      rintro e w' ⟨rfl, hb'⟩
      exact ⟨rfl, hb.trans (hb'.mono hb.size)⟩))
  unfold FnV53.val at HC ⊢
  generalize (l0.any fun x => !(a1.p (x.f0) (x.f1) (x.f2) (x.f3))) = b at HC ⊢
  generalize a1.g = G at HC ⊢
  clear hr0 a1
  go_enter Try.func66, Try.ntmps66
  go_wp2_with (go_at_call 73; refine HC.out.mono ?_; rintro e w' ⟨rfl, hb'⟩)
  go_ret
  exact ⟨rfl, ((Below.refl _ w).alloc (Nat.le_refl _) _).trans (hb'.mono (by simp))⟩
end Go.Proofs.Ytlclbdfcniiolaa.Hand
