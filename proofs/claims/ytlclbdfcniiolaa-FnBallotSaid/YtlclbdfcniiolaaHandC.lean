/- The program's 'all' over a slice of ints: it tells whether what it is handed holds of each element; for every slice, and every function value that looks at its argument alone. -/
import Derived.Test.YtlclbdfcniiolaaHandA
import Derived.Shelf.Abstract
namespace Go.Proofs.Ytlclbdfcniiolaa.Hand
open Go.RowKit Go.Proofs.YtlclbdfcniiolaaW.PrintWords Go.Proofs.YtlclbdfcniiolaaW.PrintLast Go.Proofs.YtlclbdfcniiolaaW.PrintMore
set_option linter.unusedVariables false
set_option linter.unusedSimpArgs false

/-- A function value that captures nothing, and what it tells of its argument. -/
structure FnV3 where
  g : Nat
  p : Int → Bool
  enters : ∀ (args : Array Value) (w : World), (callFunc g args).run Try.prog w = .ok (.enter g args) w
  law : ∀ (x : Int) (W : World), Calls Try.prog g #[Value.int .i64 x] W fun e w' => e = .returned (.bool (p x)) ∧ Below W.heap.size W w'
abbrev FnV3.val (v : FnV3) : Value := .func (.func v.g) #[] #[]
theorem rd_int (l0 : List Int) (k : Nat) (h : k < l0.length) : rd l0 (k : Int) = l0[k] := by
  simp [rd, rdOf, List.getD_eq_getElem?_getD, List.getElem?_eq_getElem h]

def idx_int (p : Int → Bool) (l : List Int) : Int := if l.any p = true then (l.findIdx p : Int) else -1
theorem idx_int_hit {p : Int → Bool} {l : List Int} {k : Nat} (h : k < l.length) (hp : p l[k] = true) (hb : ∀ j (hj : j < k), p (l[j]'(by omega)) = false) : idx_int p l = k := by
  unfold idx_int
  rw [if_pos (List.any_eq_true.2 ⟨l[k], List.getElem_mem h, hp⟩), (List.findIdx_eq h).2 ⟨hp, hb⟩]
theorem idx_int_miss {p : Int → Bool} {l : List Int} (hb : ∀ j (hj : j < l.length), p l[j] = false) : idx_int p l = -1 := by
  unfold idx_int
  rw [if_neg]
  intro h
  obtain ⟨x, hx, hp⟩ := List.any_eq_true.1 h
  obtain ⟨j, hj, rfl⟩ := List.getElem_of_mem hx
  rw [hb j hj] at hp
  cases hp
theorem idx_int_pos (p : Int → Bool) (l : List Int) : decide (0 ≤ idx_int p l) = l.any p := by
  unfold idx_int
  cases h : l.any p with
  | true =>
    rw [if_pos rfl]
    exact decide_eq_true (by omega)
  | false =>
    rw [if_neg (by decide)]
    rfl

set_option maxHeartbeats 2000000 in
theorem index_int (A0 : Option Addr) (c0 : Nat) (l0 : List Int) (G : Nat) (lb : Array Value) (p : Int → Bool) (w : World) (hr0 : Kd.C (Kd.int .i64) w A0 l0.length l0)
    (eg : ∀ (args : Array Value) (w : World), (callFunc G args).run Try.prog w = .ok (.enter G args) w)
    (hp : ∀ (W : World) (x : Int), Below w.heap.size w W → Calls Try.prog G (#[Value.int .i64 x] ++ lb) W fun e w' => e = .returned (.bool (p x)) ∧ Below w.heap.size w w') :
    Calls Try.prog 75 #[.slice A0 l0.length c0, .func (.func G) #[] lb] w fun e w' => e = .returned (.int .i64 (idx_int p l0)) ∧ Below w.heap.size w w' := by
  have hm := hr0.2.1
  have HR := Aside0.mk hr0
  have HP := Aside0.mk hp
  clear hr0 hp
  go_enter Try.func75, Try.ntmps75
  go_wp2
  go_loopg [5, 8] l0.length (fun gg _ s8 wr => ∃ k : Nat, k ≤ l0.length ∧ l0.length - k ≤ gg ∧ s8 = .int .i64 k ∧ Aside0 (Below w.heap.size w wr) ∧ Aside0 (∀ j (hj : j < l0.length), j < k → p l0[j] = false))
  case atStart => exact ⟨0, Nat.zero_le _, by omega, rfl, ⟨Below.refl _ w⟩, ⟨fun j _ hj => absurd hj (Nat.not_lt_zero _)⟩⟩
  case round =>
    obtain ⟨k, hk, hg, rfl, BW, NO⟩ := hrel
    by_cases hlt : k < l0.length
    · have hltz : (k : Int) < (l0.length : Int) := by omega
      obtain ⟨ad, e, hx⟩ := Kd.at_int (Kd.C_below HR.out BW.out) (k : Int) (by omega) hltz
      have e1 : ((k : Int)).toNat = k := by omega
      rw [e1, rd_int l0 k hlt] at hx
      clear e1
      cases e
      have hcall := HP.out wr l0[k] BW.out
      generalize hy : l0[k] = y at hx hcall
      have HY := Aside0.mk hy
      clear hy
      cases hq : p y with
      | true =>
        rw [hq] at hcall
        go_wp2_with (go_at_fn G; refine hcall.mono ?_; rintro e w' ⟨rfl, hb'⟩)
        go_ret
        refine ⟨?_, hb'⟩
        have e3 : (k : Int) = idx_int p l0 := (idx_int_hit hlt (by rw [HY.out]; exact hq) (fun j hj => NO.out j (by omega) hj)).symm
        exact congrArg (fun z => Ending.returned (.int .i64 z)) e3
      | false =>
        rw [hq] at hcall
        go_wp2_with (go_at_fn G; refine hcall.mono ?_; rintro e w' ⟨rfl, hb'⟩)
        go_roundg (l0.length - (k + 1))
        case measure => omega
        case rel =>
          refine ⟨k + 1, by omega, by omega, by go_num, ⟨hb'⟩, ⟨fun j hj hjk => ?_⟩⟩
          by_cases ej : j = k
          · subst ej
            rw [HY.out]; exact hq
          · exact NO.out j hj (by omega)
    · have hltz : ¬ (k : Int) < (l0.length : Int) := by omega
      obtain rfl : k = l0.length := by omega
      go_wp2
      go_ret
      refine ⟨?_, BW.out⟩
      have e3 : (-1 : Int) = idx_int p l0 := (idx_int_miss (fun j hj => NO.out j hj hj)).symm
      exact congrArg (fun z => Ending.returned (.int .i64 z)) e3

set_option maxHeartbeats 1000000 in
theorem contains_int (A0 : Option Addr) (c0 : Nat) (l0 : List Int) (G : Nat) (lb : Array Value) (p : Int → Bool) (w : World) (hr0 : Kd.C (Kd.int .i64) w A0 l0.length l0)
    (eg : ∀ (args : Array Value) (w : World), (callFunc G args).run Try.prog w = .ok (.enter G args) w)
    (hp : ∀ (W : World) (x : Int), Below w.heap.size w W → Calls Try.prog G (#[Value.int .i64 x] ++ lb) W fun e w' => e = .returned (.bool (p x)) ∧ Below w.heap.size w w') :
    Calls Try.prog 68 #[.slice A0 l0.length c0, .func (.func G) #[] lb] w fun e w' => e = .returned (.bool (l0.any p)) ∧ Below w.heap.size w w' := by
  have HI := Aside0.mk (index_int A0 c0 l0 G lb p w hr0 eg hp)
  rw [← idx_int_pos p l0]
  generalize idx_int p l0 = i at HI ⊢
  clear hr0 eg hp
  go_enter Try.func68, Try.ntmps68
  go_wp2_with (go_at_call 75; refine HI.out.mono ?_; rintro e w' ⟨rfl, hb'⟩)
  go_ret
  exact ⟨rfl, hb'⟩

theorem all_not_int (p : Int → Bool) (l : List Int) : (!(l.any fun x => !(p x))) = l.all p := by
  induction l with
  | nil => rfl
  | cons a l ih => simp only [List.any_cons, List.all_cons, ← ih]; cases p a <;> simp

set_option maxHeartbeats 1000000 in
theorem lit_int (v : FnV3) (B : Nat) (x : Int) (w : World) (hc : w.cell? ⟨B, 0, none⟩ = some v.val) :
    Calls Try.prog 69 #[Value.int .i64 x, .pointer (some ⟨B, 0, none⟩)] w fun e w' => e = .returned (.bool (!(v.p x))) ∧ Below w.heap.size w w' := by
  have HL := Aside0.mk (v.law x w)
  have eg := v.enters
  unfold FnV3.val at hc
  generalize v.p x = b at HL ⊢
  generalize v.g = G at HL eg hc
  clear v
  go_enter Try.func69, Try.ntmps69
  go_wp2_with (go_at_fn G; refine HL.out.mono ?_; rintro e w' ⟨rfl, hb'⟩)
  go_ret
  exact ⟨rfl, hb'⟩

def impl_all_int.f (l0 : List Int) (a1 : FnV3) : Option Bool := some (l0.all a1.p)
set_option maxHeartbeats 1000000 in
theorem impl_all_int.calls (A0 : Option Addr) (c0 : Nat) (l0 : List Int) (a1 : FnV3) (r : Bool) (w : World) (hr0 : Kd.C (Kd.int .i64) w A0 l0.length l0) (hc0 : l0.length ≤ c0) (h : impl_all_int.f l0 a1 = some r) :
    Calls Try.prog 50 #[.slice A0 l0.length c0, a1.val] w fun e w' => e = .returned (.bool r) ∧ Below w.heap.size w w' := by
  obtain rfl := Option.some.inj h
  clear h
  rw [← all_not_int a1.p l0]
  have HC := Aside0.mk (contains_int A0 c0 l0 69 #[.pointer (some ⟨w.heap.size, 0, none⟩)] (fun x => !(a1.p x)) (w.alloc (.cells #[a1.val] 67)) (Kd.C_below hr0 (below_alloc (Below.refl _ _) _))
    (enters_of Try.func69 (by kernel_rfl) rfl)
    (fun W x hb => by
      have hcell : W.cell? ⟨w.heap.size, 0, none⟩ = some a1.val := (hb.cell (p := ⟨w.heap.size, 0, none⟩) (by simp)).trans (by simp)
      refine (lit_int a1 w.heap.size x W hcell).mono ?_
      rintro e w' ⟨rfl, hb'⟩
      exact ⟨rfl, hb.trans (hb'.mono hb.size)⟩))
  unfold FnV3.val at HC ⊢
  generalize (l0.any fun x => !(a1.p x)) = b at HC ⊢
  generalize a1.g = G at HC ⊢
  clear hr0 a1
  go_enter Try.func50, Try.ntmps50
  go_wp2_with (go_at_call 68; refine HC.out.mono ?_; rintro e w' ⟨rfl, hb'⟩)
  go_ret
  exact ⟨rfl, ((Below.refl _ w).alloc (Nat.le_refl _) _).trans (hb'.mono (by simp))⟩
end Go.Proofs.Ytlclbdfcniiolaa.Hand
