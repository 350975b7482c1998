/- The program's 'all' over a slice of structs: it tells whether what it is handed holds of each element; for every slice, and every function value that looks at its argument alone. -/
import Derived.Test.YtpgiklbaoikogaaQ0
import Derived.Test.YtpgiklbaoikogaaHandIv
import Derived.Shelf.Abstract
namespace Go.Proofs.Ytpgiklbaoikogaa.Hand
open Go.RowKit Go.Proofs.YtpgiklbaoikogaaW.PrintWords Go.Proofs.YtpgiklbaoikogaaW.PrintLast Go.Proofs.YtpgiklbaoikogaaW.PrintMore Go.Proofs.Ytpgiklbaoikogaa.Q
set_option linter.unusedVariables false
set_option linter.unusedSimpArgs false

theorem rdt_Io (l0 : List S84) (k : Nat) (h : k < l0.length) : rd_T84 l0 (k : Int) = l0[k] := by
  simp [rd_T84, List.getD_eq_getElem?_getD, List.getElem?_eq_getElem h]
def idx_Io (p : S84 → Bool) (l : List S84) : Int := if l.any p = true then (l.findIdx p : Int) else -1
theorem idx_Io_hit {p : S84 → Bool} {l : List S84} {k : Nat} (h : k < l.length) (hp : p l[k] = true) (hb : ∀ j (hj : j < k), p (l[j]'(by omega)) = false) : idx_Io p l = k := by
  unfold idx_Io
  rw [if_pos (List.any_eq_true.2 ⟨l[k], List.getElem_mem h, hp⟩), (List.findIdx_eq h).2 ⟨hp, hb⟩]
theorem idx_Io_miss {p : S84 → Bool} {l : List S84} (hb : ∀ j (hj : j < l.length), p l[j] = false) : idx_Io p l = -1 := by
  unfold idx_Io
  rw [if_neg]
  intro h
  obtain ⟨x, hx, hp⟩ := List.any_eq_true.1 h
  obtain ⟨j, hj, rfl⟩ := List.getElem_of_mem hx
  rw [hb j hj] at hp
  cases hp
theorem idx_Io_pos (p : S84 → Bool) (l : List S84) : decide (0 ≤ idx_Io p l) = l.any p := by
  unfold idx_Io
  cases h : l.any p with
  | true =>
    rw [if_pos rfl]
    exact decide_eq_true (by omega)
  | false =>
    rw [if_neg (by decide)]
    rfl

set_option maxHeartbeats 4000000 in
theorem index_Io (A0 : Option Addr) (c0 : Nat) (l0 : List S84) (G : Nat) (lb : Array Value) (p : S84 → Bool) (w : World) (hr0 : Kd.C k84 w A0 l0.length l0)
    (eg : ∀ (args : Array Value) (w : World), (callFunc G args).run Try.prog w = .ok (.enter G args) w)
    (hp : ∀ (W : World) (x : S84), Below w.heap.size w W → Calls Try.prog G (#[.agg #[.int .i64 (x.f0), .int .i64 (x.f1), .string (x.f2)]] ++ lb) W fun e w' => e = .returned (.bool (p x)) ∧ Below w.heap.size w w') :
    Calls Try.prog 109 #[.slice A0 l0.length c0, .func (.func G) #[] lb] w fun e w' => e = .returned (.int .i64 (idx_Io p l0)) ∧ Below w.heap.size w w' := by
  have hut := Try.underlying84
  have hm := hr0.2.1
  have HR := Aside0.mk hr0
  have HP := Aside0.mk hp
  clear hr0 hp
  go_enter Try.func109, Try.ntmps109
  go_wp2
  go_loopg [5, 8] l0.length (fun gg _ s8 wr => ∃ k : Nat, k ≤ l0.length ∧ l0.length - k ≤ gg ∧ s8 = .int .i64 k ∧ Aside0 (Below w.heap.size w wr) ∧ Aside0 (∀ j (hj : j < l0.length), j < k → p l0[j] = false))
  case atStart => exact ⟨0, Nat.zero_le _, by omega, rfl, ⟨Below.refl _ w⟩, ⟨fun j _ hj => absurd hj (Nat.not_lt_zero _)⟩⟩
  case round =>
    obtain ⟨k, hk, hg, rfl, BW, NO⟩ := hrel
    by_cases hlt : k < l0.length
    · have hltz : (k : Int) < (l0.length : Int) := by omega
      obtain ⟨ad, e, hx0, hx1, hx2⟩ := at_T84 (Kd.C_below HR.out BW.out) (k : Int) (by omega) hltz
      have e1 : ((k : Int)).toNat = k := by omega
      rw [rdt_Io l0 k hlt, e1] at hx0 hx1 hx2
      clear e1
      cases e
      have hcall := HP.out wr l0[k] BW.out
      generalize hy : l0[k] = y at hx0 hx1 hx2 hcall
      have HY := Aside0.mk hy
      clear hy
      have p123 : (0 ≤ (k : Int)) = True := eq_true (by omega)
      have q123 : ((k : Int) < (l0.length : Int)) = True := eq_true hltz
      cases hq : p y with
      | true =>
        rw [hq] at hcall
        go_wp2_with (go_at_fn G; refine hcall.mono ?_; rintro e w' ⟨rfl, hb'⟩)
        go_ret
        refine ⟨?_, hb'⟩
        have e3 : (k : Int) = idx_Io p l0 := (idx_Io_hit hlt (by rw [HY.out]; exact hq) (fun j hj => NO.out j (by omega) hj)).symm
        exact congrArg (fun z => Ending.returned (.int .i64 z)) e3
      | false =>
        rw [hq] at hcall
        go_wp2_with (go_at_fn G; refine hcall.mono ?_; rintro e w' ⟨rfl, hb'⟩)
        go_roundg (l0.length - (k + 1))
        case measure => omega
        case rel =>
          refine ⟨k + 1, by omega, by omega, by go_num, ⟨hb'⟩, ⟨fun j hj hjk => ?_⟩⟩
          by_cases ej : j = k
          · subst ej
            rw [HY.out]; exact hq
          · exact NO.out j hj (by omega)
    · have hltz : ¬ (k : Int) < (l0.length : Int) := by omega
      obtain rfl : k = l0.length := by omega
      go_wp2
      go_ret
      refine ⟨?_, BW.out⟩
      have e3 : (-1 : Int) = idx_Io p l0 := (idx_Io_miss (fun j hj => NO.out j hj hj)).symm
      exact congrArg (fun z => Ending.returned (.int .i64 z)) e3

set_option maxHeartbeats 1000000 in
theorem contains_Io (A0 : Option Addr) (c0 : Nat) (l0 : List S84) (G : Nat) (lb : Array Value) (p : S84 → Bool) (w : World) (hr0 : Kd.C k84 w A0 l0.length l0)
    (eg : ∀ (args : Array Value) (w : World), (callFunc G args).run Try.prog w = .ok (.enter G args) w)
    (hp : ∀ (W : World) (x : S84), Below w.heap.size w W → Calls Try.prog G (#[.agg #[.int .i64 (x.f0), .int .i64 (x.f1), .string (x.f2)]] ++ lb) W fun e w' => e = .returned (.bool (p x)) ∧ Below w.heap.size w w') :
    Calls Try.prog 99 #[.slice A0 l0.length c0, .func (.func G) #[] lb] w fun e w' => e = .returned (.bool (l0.any p)) ∧ Below w.heap.size w w' := by
  have HI := Aside0.mk (index_Io A0 c0 l0 G lb p w hr0 eg hp)
  rw [← idx_Io_pos p l0]
  generalize idx_Io p l0 = i at HI ⊢
  clear hr0 eg hp
  go_enter Try.func99, Try.ntmps99
  go_wp2_with (go_at_call 109; refine HI.out.mono ?_; rintro e w' ⟨rfl, hb'⟩)
  go_ret
  exact ⟨rfl, hb'⟩

theorem all_not_Io (p : S84 → Bool) (l : List S84) : (!(l.any fun x => !(p x))) = l.all p := by
  induction l with
  | nil => rfl
  | cons a l ih => simp only [List.any_cons, List.all_cons, ← ih]; cases p a <;> simp

set_option maxHeartbeats 1000000 in
theorem lit_Io (v : FnV84) (B : Nat) (x0 : Int) (x1 : Int) (x2 : ByteArray) (w : World) (hc : w.cell? ⟨B, 0, none⟩ = some v.val) :
    Calls Try.prog 100 #[.agg #[.int .i64 x0, .int .i64 x1, .string x2], .pointer (some ⟨B, 0, none⟩)] w fun e w' => e = .returned (.bool (!(v.p x0 x1 x2))) ∧ Below w.heap.size w w' := by
  have hut := Try.underlying84
  have HL := fun W => v.law x0 x1 x2 W
  have eg := v.enters
  unfold FnV84.val at hc
  generalize v.p x0 x1 x2 = b at HL ⊢
  generalize v.g = G at HL eg hc
  clear v
  have HL := Aside0.mk HL
  have hB := World.block_lt_of_cell? w _ hc
  go_enter Try.func100, Try.ntmps100
  go_wp2_with (go_at_fn G; refine (HL.out _).mono ?_; rintro e w' ⟨rfl, hb'⟩)
  go_ret
  exact ⟨rfl, ((Below.refl _ w).alloc (Nat.le_refl _) _).trans (hb'.mono (by simp))⟩

def impl_all_Io.f (l0 : List S84) (a1 : FnV84) : Option Bool := some (l0.all fun x => a1.p (x.f0) (x.f1) (x.f2))
set_option maxHeartbeats 1000000 in
theorem impl_all_Io.calls (A0 : Option Addr) (c0 : Nat) (l0 : List S84) (a1 : FnV84) (r : Bool) (w : World) (hr0 : Kd.C k84 w A0 l0.length l0) (hc0 : l0.length ≤ c0) (h : impl_all_Io.f l0 a1 = some r) :
    Calls Try.prog 71 #[.slice A0 l0.length c0, a1.val] w fun e w' => e = .returned (.bool r) ∧ Below w.heap.size w w' := by
  obtain rfl := Option.some.inj h
  clear h
  rw [← all_not_Io (fun x => a1.p (x.f0) (x.f1) (x.f2)) l0]
  have HC := Aside0.mk (contains_Io A0 c0 l0 100 #[.pointer (some ⟨w.heap.size, 0, none⟩)] (fun x => !(a1.p (x.f0) (x.f1) (x.f2))) (w.alloc (.cells #[a1.val] 82)) (Kd.C_below hr0 (below_alloc (Below.refl _ _) _))
    (enters_of Try.func100 (by kernel_rfl) rfl)
    (fun W x hb => by
      have hcell : W.cell? ⟨w.heap.size, 0, none⟩ = some a1.val := (hb.cell (p := ⟨w.heap.size, 0, none⟩) (by simp)).trans (by simp)
      refine (lit_Io a1 w.heap.size (x.f0) (x.f1) (x.f2) W hcell).mono ?_
      rintro e w' ⟨rfl, hb'⟩
      exact ⟨rfl, hb.trans (hb'.mono hb.size)⟩))
  unfold FnV84.val at HC ⊢
  generalize (l0.any fun x => !(a1.p (x.f0) (x.f1) (x.f2))) = b at HC ⊢
  generalize a1.g = G at HC ⊢
  clear hr0 a1
  go_enter Try.func71, Try.ntmps71
  go_wp2_with (go_at_call 99; refine HC.out.mono ?_; rintro e w' ⟨rfl, hb'⟩)
  go_ret
  exact ⟨rfl, ((Below.refl _ w).alloc (Nat.le_refl _) _).trans (hb'.mono (by simp))⟩
end Go.Proofs.Ytpgiklbaoikogaa.Hand
