/- Slices of blocks, as plain functions: copying out of a law's slice, comparing, and the test of blocks; for lists of at most 2^40 blocks. -/
import Derived.Test.YtlclbdfcniiolaaQ9
import Derived.Test.YtlclbdfcniiolaaQ5
import Derived.Test.YtlclbdfcniiolaaQ4
import Derived.Test.YtlclbdfcniiolaaRd
set_option linter.unusedSimpArgs false
set_option linter.unusedVariables false
namespace Go.Proofs.Ytlclbdfcniiolaa.Pure
open Go.RowKit Go.Proofs.Ytlclbdfcniiolaa.Q Go.Proofs.Ytlclbdfcniiolaa.Hand Go.Proofs.YtlclbdfcniiolaaW.PrintWords Go.Proofs.YtlclbdfcniiolaaW.PrintLast Go.Proofs.YtlclbdfcniiolaaW.PrintMore

def toB (x : S59) : S53 := ⟨x.f0, x.f1, x.f2, x.f3⟩
theorem rdl_get (l : List S59) (i : Nat) (h : i < l.length) : rd_T59 l (i : Int) = l[i] := by
  simp [rd_T59, List.getD_eq_getElem?_getD, List.getElem?_eq_getElem h]
theorem rdi_get (l : List S53) (i : Nat) (h : i < l.length) : rd_T53 l (i : Int) = l[i] := by
  simp [rd_T53, List.getD_eq_getElem?_getD, List.getElem?_eq_getElem h]
theorem toBlockS_loop (l : List S59) (hn : l.length ≤ 8796093022208) (d : Nat) : ∀ (k i : Nat) (x : List S53), i ≤ l.length → l.length - i = d → d < k → x.length = l.length → (∀ j, j < i → x[j]? = (l.map toB)[j]?) → laws_toBlockS.l0 k l x (i : Int) = some (l.map toB) := by
  induction d with
  | zero =>
    intro k i x hi hd hk hx hj
    obtain ⟨k, rfl⟩ : ∃ m, k = m + 1 := ⟨k - 1, by omega⟩
    have c : ¬ (i : Int) < (l.length : Int) := by omega
    simp only [laws_toBlockS.l0, if_neg c]
    have : x = l.map toB := List.ext_getElem? (fun j => by
      by_cases h : j < i
      · exact hj j h
      · rw [List.getElem?_eq_none (by omega), List.getElem?_eq_none (by rw [List.length_map]; omega)])
    rw [this]
  | succ d ih =>
    intro k i x hi hd hk hx hj
    obtain ⟨k, rfl⟩ : ∃ m, k = m + 1 := ⟨k - 1, by omega⟩
    have hlt : i < l.length := by omega
    have c : (i : Int) < (l.length : Int) := by omega
    have c0 : (0 : Int) ≤ (i : Int) := by omega
    have c1 : (i : Int) < (x.length : Int) := by omega
    simp only [laws_toBlockS.l0, laws_toBlock.f, Option.bind_some, if_pos c, if_pos c0, if_pos c1]
    rw [wrap_small hlt (by omega), rdl_get l i hlt]
    apply ih k (i + 1) _ (by omega) (by omega) (by omega) (by simpa using hx)
    intro j hj'
    have e2 : ((i : Int)).toNat = i := by omega
    rw [e2, List.getElem?_set]
    by_cases h : i = j
    · subst h
      rw [if_pos rfl, if_pos (by omega), List.getElem?_map, List.getElem?_eq_getElem hlt]
      rfl
    · rw [if_neg h]
      exact hj j (by omega)
theorem toBlockS_eq (l : List S59) (k : Nat) (hn : l.length ≤ 8796093022208) (hk : l.length < k) : laws_toBlockS.f k l = some (l.map toB) := by
  unfold laws_toBlockS.f
  have e : ((l.length : Int) : Int).toNat = l.length := by omega
  rw [if_pos (by omega), e, if_pos hn]
  exact toBlockS_loop l hn l.length k 0 _ (by omega) (by omega) hk (by simp) (fun j hj => absurd hj (Nat.not_lt_zero _))
theorem eqBlockS_loop (a : List S53) (hn : a.length ≤ 8796093022208) (d : Nat) : ∀ (k i : Nat), i ≤ a.length → a.length - i = d → d < k → laws_eqBlockS.l0 k a a (i : Int) = some true := by
  induction d with
  | zero =>
    intro k i hi hd hk
    obtain ⟨k, rfl⟩ : ∃ m, k = m + 1 := ⟨k - 1, by omega⟩
    have c : ¬ (i : Int) < (a.length : Int) := by omega
    simp only [laws_eqBlockS.l0, if_neg c]
  | succ d ih =>
    intro k i hi hd hk
    obtain ⟨k, rfl⟩ : ∃ m, k = m + 1 := ⟨k - 1, by omega⟩
    have hlt : i < a.length := by omega
    have c : (i : Int) < (a.length : Int) := by omega
    have c0 : (0 : Int) ≤ (i : Int) := by omega
    simp only [laws_eqBlockS.l0, if_pos c, if_pos c0, laws_eqBlock.f, if_true, Option.bind_some]
    rw [wrap_small hlt (by omega)]
    exact ih k (i + 1) (by omega) (by omega) (by omega)
theorem eqBlockS_self (a : List S53) (k : Nat) (hn : a.length ≤ 8796093022208) (hk : a.length < k) : laws_eqBlockS.f k a a = some true := by
  unfold laws_eqBlockS.f
  rw [if_pos rfl]
  exact eqBlockS_loop a hn a.length k 0 (by omega) (by omega) hk
def blkP (x : S53) : Bool := blockB x.f0 x.f1 x.f2 x.f3
theorem spec_block (a b c d : Int) : spec_BlockOK.f a b c d = some (blockB a b c d) := by
  have e : ∀ a b c, spec_l01In.f a b c = some (inB a b c) := fun a b c => InR_eq a b c
  unfold spec_BlockOK.f blockB
  simp only [e, Option.bind_some]
  cases inB a 0 1000000 <;> cases inB b 0 1000000 <;> cases inB c 0 b <;> cases inB d 0 2147483647 <;> simp
  by_cases h : 0 < c
  · rw [if_pos h]; simp [h]
  · rw [if_neg h]; simp [h]
theorem blocks_loop (l : List S53) (hn : l.length ≤ 8796093022208) (d : Nat) : ∀ (k i : Nat), i ≤ l.length → l.length - i = d → d < k → spec_l05Blocks.l0 k l (i : Int) = some ((l.drop i).all blkP && ((l.length : Int) == 4)) := by
  induction d with
  | zero =>
    intro k i hi hd hk
    obtain ⟨k, rfl⟩ : ∃ m, k = m + 1 := ⟨k - 1, by omega⟩
    have c : ¬ (i : Int) < (l.length : Int) := by omega
    simp only [spec_l05Blocks.l0, if_neg c]
    rw [List.drop_eq_nil_of_le (by omega)]
    simp
  | succ d ih =>
    intro k i hi hd hk
    obtain ⟨k, rfl⟩ : ∃ m, k = m + 1 := ⟨k - 1, by omega⟩
    have hlt : i < l.length := by omega
    have c : (i : Int) < (l.length : Int) := by omega
    have c0 : (0 : Int) ≤ (i : Int) := by omega
    simp only [spec_l05Blocks.l0, if_pos c, if_pos c0]
    rw [rdi_get l i hlt, spec_block, List.drop_eq_getElem_cons hlt, List.all_cons, wrap_small hlt (by omega), ih k (i + 1) (by omega) (by omega) (by omega)]
    have e : blkP l[i] = blockB l[i].f0 l[i].f1 l[i].f2 l[i].f3 := rfl
    rw [e]
    simp only [Option.bind_some]
    cases blockB l[i].f0 l[i].f1 l[i].f2 l[i].f3 <;> simp
/-- Whether blocks are right. -/
def blocksB (l : List S53) : Bool := decide (l.length = 4) && l.all blkP
theorem spec_blocks (l : List S53) (k : Nat) (hn : l.length ≤ 8796093022208) (hk : l.length < k) : spec_l05Blocks.f k l = some (blocksB l) := by
  unfold spec_l05Blocks.f blocksB
  refine (blocks_loop l hn l.length k 0 (by omega) (by omega) hk).trans ?_
  by_cases h2 : l.length = 4
  · have h3 : ((l.length : Int) == 4) = true := by simp; omega
    simp [h2, h3]
  · have h3 : ((l.length : Int) == 4) = false := by simp; omega
    simp [h2, h3]
theorem impl_blocks (l : List S53) : impl_areBlocks.f l = some (blocksB l) := by
  have e : impl_all_Block.f l fn_BlockOK = some (l.all blkP) := rfl
  unfold impl_areBlocks.f blocksB
  rw [e]
  by_cases h : l.length = 4
  · rw [if_pos (by omega)]; simp [h]
  · rw [if_neg (by omega)]; simp [h]
end Go.Proofs.Ytlclbdfcniiolaa.Pure
