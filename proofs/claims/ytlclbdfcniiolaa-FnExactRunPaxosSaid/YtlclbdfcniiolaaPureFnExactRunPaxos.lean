/- The program's RunPaxos and the reference's give the same for all lists of at most 1048576 values and steps (the law's own guard). -/
import Derived.Test.YtlclbdfcniiolaaQ4
import Derived.Test.YtlclbdfcniiolaaQ1
import Derived.Test.YtlclbdfcniiolaaPax
import Derived.Test.YtlclbdfcniiolaaInts
import Derived.Test.YtlclbdfcniiolaaMarks
import Derived.KernelRfl
set_option linter.unusedSimpArgs false
set_option linter.unusedVariables false
namespace Go.Proofs.Ytlclbdfcniiolaa.Pure
open Go.RowKit Go.Proofs.Ytlclbdfcniiolaa.Q Go.Proofs.Ytlclbdfcniiolaa.Hand Go.Proofs.YtlclbdfcniiolaaW.PrintWords Go.Proofs.YtlclbdfcniiolaaW.PrintLast Go.Proofs.YtlclbdfcniiolaaW.PrintMore

theorem rdi_get (l : List S53) (i : Nat) (h : i < l.length) : rd_T53 l (i : Int) = l[i] := by
  simp [rd_T53, List.getD_eq_getElem?_getD, List.getElem?_eq_getElem h]
theorem eqBlockS_loop (a : List S53) (hn : a.length ≤ 8796093022208) (d : Nat) : ∀ (k i : Nat), i ≤ a.length → a.length - i = d → d < k → laws_eqBlockS.l0 k a a (i : Int) = some true := by
  induction d with
  | zero =>
    intro k i hi hd hk
    obtain ⟨k, rfl⟩ : ∃ m, k = m + 1 := ⟨k - 1, by omega⟩
    have c : ¬ (i : Int) < (a.length : Int) := by omega
    simp only [laws_eqBlockS.l0, if_neg c]
  | succ d ih =>
    intro k i hi hd hk
    obtain ⟨k, rfl⟩ : ∃ m, k = m + 1 := ⟨k - 1, by omega⟩
    have hlt : i < a.length := by omega
    have c : (i : Int) < (a.length : Int) := by omega
    have c0 : (0 : Int) ≤ (i : Int) := by omega
    simp only [laws_eqBlockS.l0, if_pos c, if_pos c0, laws_eqBlock.f, if_true, Option.bind_some]
    rw [wrap_small hlt (by omega)]
    exact ih k (i + 1) (by omega) (by omega) (by omega)
theorem eqBlockS_self (a : List S53) (k : Nat) (hn : a.length ≤ 8796093022208) (hk : a.length < k) : laws_eqBlockS.f k a a = some true := by
  unfold laws_eqBlockS.f
  rw [if_pos rfl]
  exact eqBlockS_loop a hn a.length k 0 (by omega) (by omega) hk
theorem bind_of {α β : Type} {x : Option α} {a : α} {f : α → Option β} {r : Option β} (h : x = some a) (h2 : f a = r) : x.bind f = r := by rw [h]; exact h2
theorem mark_from_loop (n : Nat) (hn : n ≤ 1099511627776) (d : Nat) : ∀ (k i : Nat) (s : Int) (x : List Int), x.length = n → 0 ≤ s → s + (d : Int) ≤ 1000000000000000 → i ≤ n → n - i = d → d < k → ∃ r, laws_markIntS.l0 k x s (i : Int) = some r ∧ 0 ≤ r.1 := by
  induction d with
  | zero =>
    intro k i s x hx hs0 hs hi hd hk
    obtain ⟨k, rfl⟩ : ∃ m, k = m + 1 := ⟨k - 1, by omega⟩
    simp only [laws_markIntS.l0]
    rw [if_neg (by omega)]
    exact ⟨_, rfl, hs0⟩
  | succ d ih =>
    intro k i s x hx hs0 hs hi hd hk
    obtain ⟨k, rfl⟩ : ∃ m, k = m + 1 := ⟨k - 1, by omega⟩
    have hlt : i < n := by omega
    have e1 : wrap64 (s + 1) = s + 1 := by unfold wrap64; omega
    simp only [laws_markIntS.l0]
    rw [if_pos (by omega), if_pos (by omega), e1, wrap_small hlt (by omega)]
    exact ih k (i + 1) (s + 1) _ (by simpa using hx) (by omega) (by omega) (by omega) (by omega) (by omega)
theorem mark_from (l : List Int) (s : Int) (k : Nat) (hs0 : 0 ≤ s) (hs : s ≤ 1000000000) (hn : l.length ≤ 1099511627776) (hk : l.length < k) : ∃ r, laws_markIntS.f k l s = some r ∧ 0 ≤ r.1 := by
  unfold laws_markIntS.f
  exact mark_from_loop l.length hn l.length k 0 s l rfl hs0 (by omega) (by omega) (by omega) hk
def blk5 : List S53 := [⟨5, 6, 7, 8⟩, ⟨9, 10, 11, 12⟩, ⟨13, 14, 15, 16⟩, ⟨17, 18, 19, 20⟩]
theorem mark4 (k : Nat) (a b c d : S53) : laws_markBlockS.f (k + 5) [a, b, c, d] 5 = some (21, blk5) := by kernel_rfl
theorem held4 (k : Nat) : laws_heldBlockS.f (k + 5) blk5 5 = some 21 := by kernel_rfl
theorem mark0 (k : Nat) : laws_markBlockS.f (k + 5) [] 1 = some (1, []) := by kernel_rfl
theorem held0 (k : Nat) : laws_heldBlockS.f (k + 5) [] 1 = some 1 := by kernel_rfl
/-- What marking both answers leaves. -/
theorem marks_of {a : List Int} {b : List S53} (h : (a = [] ∧ b = []) ∨ (a.length = 4 ∧ b.length = 4)) : ∃ m lm, 0 ≤ m ∧ ∀ k, laws_markBlockS.f (k + 5) b ((a.length : Int) + 1) = some (m, lm) ∧ laws_heldBlockS.f (k + 5) lm ((a.length : Int) + 1) = some m := by
  rcases h with ⟨rfl, rfl⟩ | ⟨ha, hb⟩
  · exact ⟨1, [], by decide, fun k => ⟨mark0 k, held0 k⟩⟩
  · have e : (a.length : Int) + 1 = 5 := by omega
    rw [e]
    match b, hb with
    | [x, y, z, u], _ => exact ⟨21, blk5, by decide, fun k => ⟨mark4 k x y z u, held4 k⟩⟩
set_option maxHeartbeats 1000000 in
theorem FnExactRunPaxos (l0 : List Int) (l1 : List Int) (_ : l0.length ≤ maxLen) (_ : ∀ x ∈ l0, (fun x : Int => (Lit.int .i64 x).wf = true) x) (_ : l1.length ≤ maxLen) (_ : ∀ x ∈ l1, (fun x : Int => (Lit.int .i64 x).wf = true) x) : ∃ k, laws_FnExactRunPaxos.f k l0 l1 = some true := by
  by_cases h0 : (l0.length : Int) > 1048576
  · exact ⟨0, by unfold laws_FnExactRunPaxos.f; rw [if_pos h0]⟩
  by_cases h1 : (l1.length : Int) > 1048576
  · exact ⟨0, by unfold laws_FnExactRunPaxos.f; rw [if_neg h0, if_pos h1]⟩
  obtain ⟨a, b, c, e1, e2, hc, hab⟩ := run_is l0 l1 (2000000 + 8) (by decide)
  obtain ⟨a', b', c', e1', e2', _, _⟩ := run_is l0 l1 (2000000 + 6) (by decide)
  have hmono := LeO.trans (impl_RunPaxos.mono l0 l1 (2000000 + 6)) (impl_RunPaxos.mono l0 l1 (2000000 + 7))
  have hsame : (a', b', c') = (a, b, c) := by
    have := hmono _ e2'
    exact Option.some.inj (this.symm.trans e2)
  simp only [Prod.mk.injEq] at hsame
  obtain ⟨rfl, rfl, rfl⟩ := hsame
  have hlen : (a' = [] ∧ b' = []) ∨ (a'.length = 4 ∧ b'.length = 4) := by
    rcases hab with x | ⟨ps, N, e, hI⟩
    · exact .inl x
    · exact .inr ⟨by rw [e, List.length_map]; exact hI.1, hI.2.1⟩
  have hla : a'.length ≤ 4 ∧ b'.length ≤ 4 := by
    rcases hlen with ⟨rfl, rfl⟩ | ⟨x, y⟩
    · exact ⟨Nat.zero_le _, Nat.zero_le _⟩
    · omega
  obtain ⟨m, lm, m0, hm⟩ := marks_of hlen
  have hml : (marks a'.length).length = a'.length := marks_length _
  refine ⟨2000000 + 8, ?_⟩
  unfold laws_FnExactRunPaxos.f
  rw [if_neg h0, if_neg h1]
  have t0 := fun (k : Nat) (hk : 1500000 < k) => toIntS_eq l0 k (by omega) (by omega)
  have t1 := fun (k : Nat) (hk : 1500000 < k) => toIntS_eq l1 k (by omega) (by omega)
  have q0 := fun (k : Nat) (hk : 1500000 < k) => eqIntS_self l0 k (by omega) (by omega)
  have q1 := fun (k : Nat) (hk : 1500000 < k) => eqIntS_self l1 k (by omega) (by omega)
  have qa := fun (k : Nat) (hk : 1500000 < k) => eqIntS_self a' k (by omega) (by omega)
  have qb := fun (k : Nat) (hk : 1500000 < k) => eqBlockS_self b' k (by omega) (by omega)
  refine bind_of (t0 _ (by decide)) (bind_of (t1 _ (by decide)) (bind_of e1 (bind_of (t0 _ (by decide)) (bind_of (t1 _ (by decide)) (bind_of e2 (bind_of (qa _ (by decide)) ?_))))))
  rw [if_pos rfl]
  refine bind_of (qb _ (by decide)) ?_
  rw [if_pos rfl]
  have hcc : (c' != c') = false := by simp
  show laws_FnExactRunPaxos.j0 (2000007 + 1) l0 l1 a' b' c' l0 l1 a' b' c' (c' != c') = some true
  rw [hcc]
  simp only [laws_FnExactRunPaxos.j0, Bool.false_eq_true, if_false]
  refine bind_of (t0 _ (by decide)) (bind_of (q0 _ (by decide)) ?_)
  rw [if_pos rfl]
  refine bind_of (t1 _ (by decide)) (bind_of (q1 _ (by decide)) ?_)
  rw [if_pos rfl]
  refine bind_of (mark_eq l0 _ (by omega) (by omega)) ?_
  obtain ⟨mm, hmm, hm0⟩ : ∃ r, laws_markIntS.f 2000007 l1 ((l0.length : Int) + 1) = some r ∧ 0 ≤ r.1 := mark_from l1 _ _ (by omega) (by omega) (by omega) (by omega)
  refine bind_of hmm ?_
  rw [if_neg (by omega)]
  refine bind_of (qa _ (by decide)) ?_
  rw [if_pos rfl]
  refine bind_of (qb _ (by decide)) ?_
  rw [if_pos rfl, hcc]
  show laws_FnExactRunPaxos.j1 (2000006 + 1) l0 l1 a' b' c' a' b' false = some true
  simp only [laws_FnExactRunPaxos.j1, Bool.false_eq_true, if_false]
  refine bind_of (mark_eq a' _ (by omega) (by omega)) (bind_of (hm 2000001).1 (bind_of (held_eq a'.length _ (by omega) (by omega)) ?_))
  rw [if_neg (by omega)]
  refine bind_of (hm 2000001).2 ?_
  rw [if_neg (by omega), if_pos rfl]
  refine bind_of (t0 _ (by decide)) (bind_of (t1 _ (by decide)) (bind_of e2' (bind_of (qa _ (by decide)) ?_)))
  rw [if_pos rfl]
  refine bind_of (qb _ (by decide)) ?_
  rw [if_pos rfl, hcc]
  show laws_FnExactRunPaxos.j2 (2000005 + 1) (marks a'.length) lm m false = some true
  simp only [laws_FnExactRunPaxos.j2, Bool.false_eq_true, if_false]
  refine bind_of (held_eq a'.length _ (by omega) (by omega)) ?_
  rw [if_neg (by omega)]
  refine bind_of (hm 2000000).2 ?_
  rw [if_neg (by omega), if_pos rfl]
end Go.Proofs.Ytlclbdfcniiolaa.Pure
