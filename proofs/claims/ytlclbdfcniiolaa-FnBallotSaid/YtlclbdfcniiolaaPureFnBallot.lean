/- Draws of a ballot and of blocks lie within bounds; the program's NextBallot, PxStep and PxStart answer there as the law says: for codes of bytes of any length. -/
import Derived.Test.YtlclbdfcniiolaaQ3
import Derived.Test.YtlclbdfcniiolaaQ4
import Derived.Test.YtlclbdfcniiolaaQ2
import Derived.Test.YtlclbdfcniiolaaRd
import Derived.Test.YtlclbdfcniiolaaNext
import Derived.Test.YtlclbdfcniiolaaHandBl
import Derived.Test.YtlclbdfcniiolaaHandA
set_option linter.unusedSimpArgs false
set_option linter.unusedVariables false
namespace Go.Proofs.Ytlclbdfcniiolaa.Pure
open Go.RowKit Go.Proofs.Ytlclbdfcniiolaa.Q Go.Proofs.Ytlclbdfcniiolaa.Hand Go.Proofs.YtlclbdfcniiolaaW.PrintWords Go.Proofs.YtlclbdfcniiolaaW.PrintLast Go.Proofs.YtlclbdfcniiolaaW.PrintMore
theorem rdi_get (l : List S53) (i : Nat) (h : i < l.length) : rd_T53 l (i : Int) = l[i] := by
  simp [rd_T53, List.getD_eq_getElem?_getD, List.getElem?_eq_getElem h]
def blkP (x : S53) : Bool := blockB x.f0 x.f1 x.f2 x.f3
theorem spec_block (a b c d : Int) : spec_BlockOK.f a b c d = some (blockB a b c d) := by
  have e : ∀ a b c, spec_l01In.f a b c = some (inB a b c) := fun a b c => InR_eq a b c
  unfold spec_BlockOK.f blockB
  simp only [e, Option.bind_some]
  cases inB a 0 1000000 <;> cases inB b 0 1000000 <;> cases inB c 0 b <;> cases inB d 0 2147483647 <;> simp
  by_cases h : 0 < c
  · rw [if_pos h]; simp [h]
  · rw [if_neg h]; simp [h]
theorem blocks_loop (l : List S53) (hn : l.length ≤ 8796093022208) (d : Nat) : ∀ (k i : Nat), i ≤ l.length → l.length - i = d → d < k → spec_l05Blocks.l0 k l (i : Int) = some ((l.drop i).all blkP && ((l.length : Int) == 4)) := by
  induction d with
  | zero =>
    intro k i hi hd hk
    obtain ⟨k, rfl⟩ : ∃ m, k = m + 1 := ⟨k - 1, by omega⟩
    have c : ¬ (i : Int) < (l.length : Int) := by omega
    simp only [spec_l05Blocks.l0, if_neg c]
    rw [List.drop_eq_nil_of_le (by omega)]
    simp
  | succ d ih =>
    intro k i hi hd hk
    obtain ⟨k, rfl⟩ : ∃ m, k = m + 1 := ⟨k - 1, by omega⟩
    have hlt : i < l.length := by omega
    have c : (i : Int) < (l.length : Int) := by omega
    have c0 : (0 : Int) ≤ (i : Int) := by omega
    simp only [spec_l05Blocks.l0, if_pos c, if_pos c0]
    rw [rdi_get l i hlt, spec_block, List.drop_eq_getElem_cons hlt, List.all_cons, wrap_small hlt (by omega), ih k (i + 1) (by omega) (by omega) (by omega)]
    have e : blkP l[i] = blockB l[i].f0 l[i].f1 l[i].f2 l[i].f3 := rfl
    rw [e]
    simp only [Option.bind_some]
    cases blockB l[i].f0 l[i].f1 l[i].f2 l[i].f3 <;> simp
/-- Whether blocks are right. -/
def blocksB (l : List S53) : Bool := decide (l.length = 4) && l.all blkP
theorem spec_blocks (l : List S53) (k : Nat) (hn : l.length ≤ 8796093022208) (hk : l.length < k) : spec_l05Blocks.f k l = some (blocksB l) := by
  unfold spec_l05Blocks.f blocksB
  refine (blocks_loop l hn l.length k 0 (by omega) (by omega) hk).trans ?_
  by_cases h2 : l.length = 4
  · have h3 : ((l.length : Int) == 4) = true := by simp; omega
    simp [h2, h3]
  · have h3 : ((l.length : Int) == 4) = false := by simp; omega
    simp [h2, h3]
theorem impl_blocks (l : List S53) : impl_areBlocks.f l = some (blocksB l) := by
  have e : impl_all_Block.f l fn_BlockOK = some (l.all blkP) := rfl
  unfold impl_areBlocks.f blocksB
  rw [e]
  by_cases h : l.length = 4
  · rw [if_pos (by omega)]; simp [h]
  · rw [if_neg (by omega)]; simp [h]
def pxB (a b c d e f g h : Int) : Bool := (decide (0 ≤ a) && decide (a ≤ 3)) && (decide (0 ≤ b) && decide (b ≤ 1000000)) && (decide (1 ≤ c) && decide (c ≤ 6)) && (decide (1 ≤ d) && decide (d ≤ 1000000)) && decide (Int.tmod d 4 = a) && (decide (0 ≤ e) && decide (e ≤ 2147483647)) && (decide (0 ≤ f) && decide (f ≤ 4)) && (decide (0 ≤ g) && decide (g ≤ 2147483647)) && (decide (0 ≤ h) && decide (h ≤ 1000000))
theorem px_both (a b c d e f g h : Int) (k : Nat) : spec_PxOK.f (k + 1) a b c d e f g h = some (pxB a b c d e f g h) ∧ impl_PxOK.f a b c d e f g h = some (pxB a b c d e f g h) := by
  have hv : ∀ a b c, impl_within.f a b c = spec_l01In.f a b c := fun _ _ _ => rfl
  unfold spec_PxOK.f impl_PxOK.f impl_isHost.f impl_isVer.f impl_isNumber.f spec_l04Host.f pxB
  simp only [hv, InR_eq, Option.bind_some, spec_PxOK.j0, spec_l02Int.f]
  generalize (decide (0 ≤ a) && decide (a ≤ 3)) = b0
  generalize (decide (0 ≤ b) && decide (b ≤ 1000000)) = b1
  generalize (decide (1 ≤ c) && decide (c ≤ 6)) = b2
  generalize (decide (1 ≤ d) && decide (d ≤ 1000000)) = b3
  generalize (decide (0 ≤ e) && decide (e ≤ 2147483647)) = b4
  generalize (decide (0 ≤ f) && decide (f ≤ 4)) = b5
  generalize (decide (0 ≤ g) && decide (g ≤ 2147483647)) = b6
  generalize (decide (0 ≤ h) && decide (h ≤ 1000000)) = b7
  cases b0 with
  | false => exact ⟨by simp, by simp⟩
  | true =>
    cases b1 with
    | false => exact ⟨by simp, by simp⟩
    | true =>
      cases b2 with
      | false => exact ⟨by simp, by simp⟩
      | true =>
        cases b3 with
        | false => exact ⟨by simp, by simp⟩
        | true =>
          by_cases he : Int.tmod d 4 = a
          · have e2 : (Int.tmod d 4 != a) = false := by simpa using he
            simp only [e2, if_pos he, Bool.false_eq_true, if_false, if_true, decide_eq_true he]
            cases b4 <;> cases b5 <;> cases b6 <;> exact ⟨rfl, rfl⟩
          · have e2 : (Int.tmod d 4 != a) = true := by simpa using he
            simp only [e2, if_neg he, if_true, decide_eq_false he]
            exact ⟨by simp, by simp⟩
theorem pxB_bounds {a b c d e f g h : Int} (hp : pxB a b c d e f g h = true) : (0 ≤ a ∧ a < 4) ∧ (0 ≤ b ∧ b ≤ 1000000) ∧ (1 ≤ c ∧ c ≤ 6) ∧ (1 ≤ d ∧ d ≤ 1000000) ∧ Int.tmod d 4 = a ∧ (0 ≤ e ∧ e ≤ 2147483647) ∧ (0 ≤ f ∧ f ≤ 4) ∧ (0 ≤ g ∧ g ≤ 2147483647) ∧ (0 ≤ h ∧ h ≤ 1000000) := by
  unfold pxB at hp
  simp only [Bool.and_eq_true, decide_eq_true_eq] at hp
  omega
theorem firsts2 (x y : Bool) (c d : Int) : impl_first.f [AnyV.b x, AnyV.i c, AnyV.b y, AnyV.i d] = some (if x = true then c else if y = true then d else 0) := by
  cases x <;> cases y <;> simp [impl_first.f, firstOf, AnyV.asBool, AnyV.asInt]
theorem step_length (a0 a1 a2 a3 a4 a5 a6 a7 : Int) (l : List S53) : (impl_Px_step.g a0 a1 a2 a3 a4 a5 a6 a7 l).2.2.2.2.2.2.2.2.length = l.length := by
  unfold impl_Px_step.g
  have hw : ∀ p, (pxWrite a0 a1 p a3 a4 a5 a6 a7 l).2.2.2.2.2.2.2.2.length = l.length := by
    intro p
    unfold pxWrite pxWriteD
    split <;> split <;> simp
  split
  · exact hw 1
  · split
    · exact hw 3
    · rfl
theorem firsts3 (x y z : Bool) (c d e : Int) : impl_first.f [AnyV.b x, AnyV.i c, AnyV.b y, AnyV.i d, AnyV.b z, AnyV.i e] = some (if x = true then c else if y = true then d else if z = true then e else 0) := by
  cases x <;> cases y <;> cases z <;> simp [impl_first.f, firstOf, AnyV.asBool, AnyV.asInt]

theorem bind_of {α β : Type} {x : Option α} {a : α} {f : α → Option β} {r : Option β} (h : x = some a) (h2 : f a = r) : x.bind f = r := by rw [h]; exact h2
theorem pxB_mk {a b c d e f g h : Int} (hc : (0 ≤ a ∧ a ≤ 3) ∧ (0 ≤ b ∧ b ≤ 1000000) ∧ (1 ≤ c ∧ c ≤ 6) ∧ (1 ≤ d ∧ d ≤ 1000000) ∧ Int.tmod d 4 = a ∧ (0 ≤ e ∧ e ≤ 2147483647) ∧ (0 ≤ f ∧ f ≤ 4) ∧ (0 ≤ g ∧ g ≤ 2147483647) ∧ (0 ≤ h ∧ h ≤ 1000000)) : pxB a b c d e f g h = true := by
  obtain ⟨⟨a0, a1⟩, ⟨b0, b1⟩, ⟨c0, c1⟩, ⟨d0, d1⟩, dm, ⟨e0, e1⟩, ⟨f0, f1⟩, ⟨g0, g1⟩, ⟨h0, h1⟩⟩ := hc
  unfold pxB
  simp only [decide_eq_true a0, decide_eq_true a1, decide_eq_true b0, decide_eq_true b1, decide_eq_true c0, decide_eq_true c1, decide_eq_true d0, decide_eq_true d1, decide_eq_true dm, decide_eq_true e0, decide_eq_true e1, decide_eq_true f0, decide_eq_true f1, decide_eq_true g0, decide_eq_true g1, decide_eq_true h0, decide_eq_true h1, Bool.and_self]
def BOk (x : S53) : Prop := (0 ≤ x.f0 ∧ x.f0 ≤ 1000000) ∧ (0 ≤ x.f1 ∧ x.f1 ≤ 1000000) ∧ (0 ≤ x.f2 ∧ x.f2 ≤ x.f1) ∧ (0 ≤ x.f3 ∧ x.f3 ≤ 2147483647) ∧ (0 < x.f2 ∨ x.f3 = 0)
theorem blkP_iff (x : S53) : blkP x = true ↔ BOk x := by
  unfold blkP blockB inB BOk
  simp only [Bool.and_eq_true, decide_eq_true_eq, Bool.or_eq_true, beq_iff_eq]
theorem of_ok {x : S53} {v : Int} (hx : BOk x) (v0 : 0 ≤ v) (v1 : v ≤ 1000000) : BOk (pxOf x v) ∧ v ≤ (pxOf x v).f0 ∧ (x.f0 < v ∨ pxOf x v = x) := by
  unfold pxOf
  by_cases c : x.f0 < v
  · rw [if_pos c]
    unfold BOk
    dsimp only
    omega
  · rw [if_neg c]
    exact ⟨hx, by omega, .inr rfl⟩
/-! a step keeps ballots and blocks right -/
def okT (q : Int × Int × Int × Int × Int × Int × Int × Int) : Prop := pxB q.1 q.2.1 q.2.2.1 q.2.2.2.1 q.2.2.2.2.1 q.2.2.2.2.2.1 q.2.2.2.2.2.2.1 q.2.2.2.2.2.2.2 = true
def Right (h v bal : Int) : Prop := (0 ≤ h ∧ h ≤ 3) ∧ (0 ≤ v ∧ v ≤ 1000000) ∧ (1 ≤ bal ∧ bal ≤ 1000000) ∧ Int.tmod bal 4 = h
theorem okT_mk {h v ph bal val nx best bb : Int} (hR : Right h v bal) (h1 : 1 ≤ ph ∧ ph ≤ 6) (h2 : 0 ≤ val ∧ val ≤ 2147483647) (h3 : 0 ≤ nx ∧ nx ≤ 4) (h4 : 0 ≤ best ∧ best ≤ 2147483647) (h5 : 0 ≤ bb ∧ bb ≤ 1000000) : okT (h, v, ph, bal, val, nx, best, bb) :=
  pxB_mk ⟨hR.1, hR.2.1, h1, hR.2.2.1, hR.2.2.2, h2, h3, h4, h5⟩
theorem fin_ok {h v ph bal val nx best bb : Int} (hR : Right h v bal) (h1 : 1 ≤ ph ∧ ph ≤ 6) (h2 : 0 ≤ val ∧ val ≤ 2147483647) (h3 : 0 ≤ nx ∧ nx ≤ 4) (h4 : 0 ≤ best ∧ best ≤ 2147483647) (h5 : 0 ≤ bb ∧ bb ≤ 1000000) : okT (pxFin h v ph bal val nx best bb) := by
  unfold pxFin
  by_cases c : nx < 4
  · rw [if_pos c]; exact okT_mk hR h1 h2 h3 h4 h5
  · rw [if_neg c]
    by_cases d : ph = 4
    · rw [if_pos d]; exact okT_mk hR (by omega) h2 h3 h4 h5
    · rw [if_neg d]
      by_cases e : 0 < bb
      · rw [if_pos e]; exact okT_mk hR (by omega) h4 h3 h4 h5
      · rw [if_neg e]; exact okT_mk hR (by omega) h2 h3 h4 h5
theorem skip_is (h nx : Int) : (nx = h ∧ pxSkip h nx = nx + 1) ∨ (nx ≠ h ∧ pxSkip h nx = nx) := by
  unfold pxSkip
  by_cases c : nx = h
  · rw [if_pos c]; exact .inl ⟨c, rfl⟩
  · rw [if_neg c]; exact .inr ⟨c, rfl⟩
theorem look_ok {h v ph bal val nx best bb : Int} {d : S53} (hR : Right h v bal) (h1 : 1 ≤ ph ∧ ph ≤ 6) (h2 : 0 ≤ val ∧ val ≤ 2147483647) (h3 : 0 ≤ nx ∧ nx < 4) (h4 : 0 ≤ best ∧ best ≤ 2147483647) (h5 : 0 ≤ bb ∧ bb ≤ 1000000) (hd : BOk d) : okT (pxLook h v ph bal val nx best bb d) := by
  have hs := skip_is h (nx + 1)
  have hh := hR.1
  unfold BOk at hd
  unfold pxLook
  by_cases c : v < d.f0 ∨ bal < d.f1
  · rw [if_pos c]; exact okT_mk hR (by omega) h2 (by omega) h4 h5
  · rw [if_neg c]
    by_cases e : ph = 2 ∧ bb < d.f2
    · rw [if_pos e]; exact fin_ok hR h1 h2 (by omega) (by omega) (by omega)
    · rw [if_neg e]; exact fin_ok hR h1 h2 (by omega) h4 h5
theorem read_ok {h v ph bal val nx best bb : Int} {bl : List S53} (hR : Right h v bal) (h1 : 1 ≤ ph ∧ ph ≤ 6) (h2 : 0 ≤ val ∧ val ≤ 2147483647) (h3 : 0 ≤ nx ∧ nx ≤ 4) (h4 : 0 ≤ best ∧ best ≤ 2147483647) (h5 : 0 ≤ bb ∧ bb ≤ 1000000) (hb : ∀ g, 0 ≤ g → g < 4 → BOk (rd_T53 bl g)) : okT (pxRead h v ph bal val nx best bb bl) := by
  have hs := skip_is h nx
  have hh := hR.1
  unfold pxRead
  by_cases c : pxSkip h nx < 4
  · rw [if_pos c]
    exact look_ok hR h1 h2 (by omega) h4 h5 (of_ok (hb _ (by omega) c) hR.2.1.1 hR.2.1.2).1
  · rw [if_neg c]; exact fin_ok hR h1 h2 (by omega) h4 h5
theorem rd_T53_set {l : List S53} {i : Int} {x : S53} (h0 : 0 ≤ i) (h1 : i < (l.length : Int)) : rd_T53 (l.set i.toNat x) i = x := by
  have hn : i.toNat < l.length := by omega
  simp [rd_T53, List.getD_eq_getElem?_getD, hn]
theorem rd_T53_other {l : List S53} {i g : Int} (x : S53) (h0 : 0 ≤ i) (g0 : 0 ≤ g) (e : g ≠ i) : rd_T53 (l.set i.toNat x) g = rd_T53 l g := by
  have : ¬ i.toNat = g.toNat := by omega
  simp [rd_T53, List.getD_eq_getElem?_getD, List.getElem?_set, this]
/-- What a step leaves of the blocks. -/
def BlOk (h : Int) (bl lq : List S53) : Prop := lq.length = 4 ∧ ∀ g, 0 ≤ g → g < 4 → (g ≠ h → rd_T53 lq g = rd_T53 bl g) ∧ BOk (rd_T53 lq g) ∧ ((rd_T53 lq g).f0 = (rd_T53 bl g).f0 → (rd_T53 bl g).f1 ≤ (rd_T53 lq g).f1)
theorem BlOk.same {h : Int} {bl : List S53} (hl : bl.length = 4) (hb : ∀ g, 0 ≤ g → g < 4 → BOk (rd_T53 bl g)) : BlOk h bl bl := ⟨hl, fun g g0 g4 => ⟨fun _ => rfl, hb g g0 g4, fun _ => Int.le_refl _⟩⟩
theorem BlOk.set {h : Int} {bl : List S53} {x : S53} (hl : bl.length = 4) (hb : ∀ g, 0 ≤ g → g < 4 → BOk (rd_T53 bl g)) (h0 : 0 ≤ h) (h4 : h < 4) (hx : BOk x) (hm : x.f0 = (rd_T53 bl h).f0 → (rd_T53 bl h).f1 ≤ x.f1) : BlOk h bl (bl.set h.toNat x) := by
  refine ⟨by rw [List.length_set]; exact hl, fun g g0 g4 => ?_⟩
  by_cases e : g = h
  · subst e
    rw [rd_T53_set h0 (by omega)]
    exact ⟨fun y => absurd rfl y, hx, hm⟩
  · rw [rd_T53_other x h0 g0 e]
    exact ⟨fun _ => rfl, hb g g0 g4, fun _ => Int.le_refl _⟩
def okG (h : Int) (bl : List S53) (q : Int × Int × Int × Int × Int × Int × Int × Int × List S53) : Prop := okT (q.1, q.2.1, q.2.2.1, q.2.2.2.1, q.2.2.2.2.1, q.2.2.2.2.2.1, q.2.2.2.2.2.2.1, q.2.2.2.2.2.2.2.1) ∧ BlOk h bl q.2.2.2.2.2.2.2.2
theorem write_ok {h v ph bal val nx best bb : Int} {bl : List S53} (hR : Right h v bal) (h1 : ph = 1 ∨ ph = 3) (h2 : 0 ≤ val ∧ val ≤ 2147483647) (h3 : 0 ≤ nx ∧ nx ≤ 4) (h4 : 0 ≤ best ∧ best ≤ 2147483647) (h5 : 0 ≤ bb ∧ bb ≤ 1000000) (hl : bl.length = 4) (hb : ∀ g, 0 ≤ g → g < 4 → BOk (rd_T53 bl g)) : okG h bl (pxWrite h v ph bal val nx best bb bl) := by
  have hh := hR.1
  obtain ⟨hd, hv, hx⟩ := of_ok (hb h hh.1 (by omega)) hR.2.1.1 hR.2.1.2
  have hbal := hR.2.2.1
  unfold pxWrite
  generalize pxOf (rd_T53 bl h) v = d at hd hv hx ⊢
  have hd' := hd
  unfold BOk at hd'
  have hm : d.f0 = v → d.f1 ≤ bal → d.f0 = (rd_T53 bl h).f0 → (rd_T53 bl h).f1 ≤ bal := by
    intro e1 e2 e3
    rcases hx with y | y
    · omega
    · rw [← y]; exact e2
  unfold pxWriteD
  by_cases p : ph = 1
  · rw [if_pos p]
    by_cases c : v < d.f0 ∨ bal < d.f1 ∨ d.f1 = bal
    · rw [if_pos c]; exact ⟨okT_mk hR (show (1 : Int) ≤ 6 ∧ (6 : Int) ≤ 6 by decide) h2 h3 h4 h5, BlOk.same hl hb⟩
    · rw [if_neg c]
      refine ⟨okT_mk hR (show (1 : Int) ≤ 2 ∧ (2 : Int) ≤ 6 by decide) h2 (show (0 : Int) ≤ 0 ∧ (0 : Int) ≤ 4 by decide) (by clear hm hx hb c; dsimp only; omega) (by clear hm hx hb c; dsimp only; omega), BlOk.set hl hb hh.1 (by omega) ?_ (fun e => hm (by clear hm hx; omega) (by clear hm hx; omega) e)⟩
      unfold BOk
      clear hm hx
      dsimp only
      omega
  · rw [if_neg p]
    by_cases c : v < d.f0 ∨ bal < d.f1 ∨ ¬ d.f1 = bal
    · rw [if_pos c]; exact ⟨okT_mk hR (show (1 : Int) ≤ 6 ∧ (6 : Int) ≤ 6 by decide) h2 h3 h4 h5, BlOk.same hl hb⟩
    · rw [if_neg c]
      refine ⟨okT_mk hR (show (1 : Int) ≤ 4 ∧ (4 : Int) ≤ 6 by decide) h2 (show (0 : Int) ≤ 0 ∧ (0 : Int) ≤ 4 by decide) h4 h5, BlOk.set hl hb hh.1 (by omega) ?_ (fun e => hm (by clear hm hx; omega) (by clear hm hx; omega) e)⟩
      unfold BOk
      clear hm hx
      dsimp only
      omega
theorem g_ok {h v ph bal val nx best bb : Int} {bl : List S53} (hp : pxB h v ph bal val nx best bb = true) (h5 : ph < 5) (hl : bl.length = 4) (hb : ∀ g, 0 ≤ g → g < 4 → BOk (rd_T53 bl g)) : okG h bl (impl_Px_step.g h v ph bal val nx best bb bl) := by
  obtain ⟨a, b, c, d, e, f, g, i, j⟩ := pxB_bounds hp
  have hR : Right h v bal := ⟨by omega, b, d, e⟩
  unfold impl_Px_step.g
  by_cases p1 : ph = 1
  · rw [if_pos p1]; exact write_ok hR (.inl rfl) f g i j hl hb
  · rw [if_neg p1]
    by_cases p3 : ph = 3
    · rw [if_pos p3]; exact write_ok hR (.inr rfl) f g i j hl hb
    · rw [if_neg p3]
      exact ⟨read_ok hR c f g i j hb, BlOk.same hl hb⟩

/-! PxStep, NextBallot, PxStart at right ballots and blocks -/
theorem blocks_in {bl : List S53} (hb : blocksB bl = true) : bl.length = 4 ∧ ∀ g, 0 ≤ g → g < 4 → BOk (rd_T53 bl g) := by
  unfold blocksB at hb
  simp only [Bool.and_eq_true, decide_eq_true_eq] at hb
  refine ⟨hb.1, fun g g0 g4 => (blkP_iff _).1 (List.all_eq_true.1 hb.2 _ ?_)⟩
  have hn : g.toNat < bl.length := by omega
  simp [rd_T53, List.getD_eq_getElem?_getD, hn]
theorem step_open {a0 a1 a2 a3 a4 a5 a6 a7 : Int} {l : List S53} {k : Nat} (hk : 4 < k) (hp : pxB a0 a1 a2 a3 a4 a5 a6 a7 = true) (hb : blocksB l = true) : ∃ q1 q2 q3 q4 q5 q6 q7 q8 lq c, spec_PxStep.f (k + 1) a0 a1 a2 a3 a4 a5 a6 a7 l = some (q1, q2, q3, q4, q5, q6, q7, q8, lq, c) ∧ impl_PxStep.f (k + 1) a0 a1 a2 a3 a4 a5 a6 a7 l = some (q1, q2, q3, q4, q5, q6, q7, q8, lq, c) ∧ pxB q1 q2 q3 q4 q5 q6 q7 q8 = true ∧ BlOk a0 l lq := by
  obtain ⟨h4, hall⟩ := blocks_in hb
  have hL : ¬ (l.length : Int) > 4096 := by omega
  obtain ⟨⟨p0, p1⟩, _, ⟨p2, p3⟩, _, _, _, ⟨p5, p6⟩, _⟩ := pxB_bounds hp
  have hc : slices_Clone_Block.f l = some l := by unfold slices_Clone_Block.f; rw [if_pos (by omega)]
  unfold spec_PxStep.f impl_PxStep.f impl_Block_40.f
  simp only [(px_both a0 a1 a2 a3 a4 a5 a6 a7 k).1, (px_both a0 a1 a2 a3 a4 a5 a6 a7 k).2, Option.bind_some, spec_blocks l (k + 1) (by omega) (by omega), impl_blocks, firsts2, impl_PxStep.j0, hp, hb]
  rw [if_neg hL]
  simp only [if_true, Bool.not_true, Bool.false_eq_true, if_false, decide_eq_false hL, hc, Option.bind_some, spec_l05Step.f, impl_Px_ended.f, impl_Px_step.f]
  rw [if_pos ⟨h4, p0, p1, p2, p3, p5, p6⟩]
  by_cases h5 : 5 ≤ a2
  · rw [if_pos h5]
    refine ⟨a0, a1, a2, a3, a4, a5, a6, a7, l, 15, rfl, ?_, hp, BlOk.same h4 hall⟩
    by_cases h55 : a2 = 5
    · simp [h55]
    · have h6 : a2 = 6 := by omega
      simp [h6]
  · rw [if_neg h5]
    have hg := g_ok hp (by omega) h4 hall
    refine ⟨_, _, _, _, _, _, _, _, _, _, rfl, ?_, hg.1, hg.2⟩
    have h55 : ¬ a2 = 5 := by omega
    have h66 : (a2 == 6) = false := by simp; omega
    rw [if_neg h55, h66]
    simp only [Option.bind_some, Bool.false_eq_true, if_false]
    rw [if_pos ⟨h4, p0, p1, p2, by omega, p5, p6⟩]
    rfl
theorem mx_is (a b : Int) : (a < b ∧ mx a b = b) ∨ (b ≤ a ∧ mx a b = a) := by
  unfold mx
  by_cases c : a < b
  · rw [if_pos c]; exact .inl ⟨c, rfl⟩
  · rw [if_neg c]; exact .inr ⟨by omega, rfl⟩
theorem rd4 (P : Int → Prop) (h0 : P 0) (h1 : P 1) (h2 : P 2) (h3 : P 3) : ∀ g, 0 ≤ g → g < 4 → P g := by
  intro g g0 g4
  have : g = 0 ∨ g = 1 ∨ g = 2 ∨ g = 3 := by omega
  rcases this with rfl | rfl | rfl | rfl <;> assumption
theorem next_val {N h v : Int} {bl : List S53} (hlb : bl.length = 4) (hz : ∀ g, 0 ≤ g → g < 4 → 0 ≤ (pxOf (rd_T53 bl g) v).f1 ∧ (pxOf (rd_T53 bl g) v).f1 ≤ N) (h0 : 0 ≤ h) (h4 : h < 4) (hN : N ≤ 1000000) : ∃ n, 0 < n ∧ n ≤ N + 7 ∧ n % 4 = h ∧ (∀ g, 0 ≤ g → g < 4 → (pxOf (rd_T53 bl g) v).f1 < n) ∧ ∀ k, 4 < k → impl_nextBallot.f k h v bl = some n := by
  have w1 : wrap64 (0 + 1) = 1 := by unfold wrap64; omega
  have w2 : wrap64 (1 + 1) = 2 := by unfold wrap64; omega
  have w3 : wrap64 (2 + 1) = 3 := by unfold wrap64; omega
  have w4 : wrap64 (3 + 1) = 4 := by unfold wrap64; omega
  have hl4 : (bl.length : Int) = 4 := by omega
  obtain ⟨l0, u0⟩ := hz 0 (by decide) (by decide)
  obtain ⟨l1, u1⟩ := hz 1 (by decide) (by decide)
  obtain ⟨l2, u2⟩ := hz 2 (by decide) (by decide)
  obtain ⟨l3, u3⟩ := hz 3 (by decide) (by decide)
  have e0 := pxOf_f (x := rd_T53 bl 0) (v := v)
  have e1 := pxOf_f (x := rd_T53 bl 1) (v := v)
  have e2 := pxOf_f (x := rd_T53 bl 2) (v := v)
  have e3 := pxOf_f (x := rd_T53 bl 3) (v := v)
  obtain ⟨m, hm⟩ : ∃ m, mx (mx (mx (mx 0 (pxOf (rd_T53 bl 0) v).f1) (pxOf (rd_T53 bl 1) v).f1) (pxOf (rd_T53 bl 2) v).f1) (pxOf (rd_T53 bl 3) v).f1 = m := ⟨_, rfl⟩
  have hrun : ∀ k, 4 < k → impl_nextBallot.f k h v bl = some (wrap64 ((wrap64 ((wrap64 ((wrap64 (Int.tdiv m 4)) + 1)) * 4)) + h)) := by
    intro k hk
    obtain ⟨k, rfl⟩ : ∃ m, k = m + 5 := ⟨k - 5, by omega⟩
    simp only [impl_nextBallot.f, impl_nextBallot.l0, e0, e1, e2, e3, hl4, w1, w2, w3, w4, if_false, if_true, Option.bind_some, (by decide : (0 : Int) < 4), (by decide : (1 : Int) < 4), (by decide : (2 : Int) < 4), (by decide : (3 : Int) < 4), (by decide : ¬ (4 : Int) < 4), (by decide : (0 : Int) ≤ 0), (by decide : (0 : Int) ≤ 1), (by decide : (0 : Int) ≤ 2), (by decide : (0 : Int) ≤ 3), hm]
  clear e0 e1 e2 e3 hz w1 w2 w3 w4
  have m0 : 0 ≤ m ∧ m ≤ N ∧ (pxOf (rd_T53 bl 0) v).f1 ≤ m ∧ (pxOf (rd_T53 bl 1) v).f1 ≤ m ∧ (pxOf (rd_T53 bl 2) v).f1 ≤ m ∧ (pxOf (rd_T53 bl 3) v).f1 ≤ m := by
    clear hrun
    have e0 := mx_is 0 (pxOf (rd_T53 bl 0) v).f1
    generalize mx 0 (pxOf (rd_T53 bl 0) v).f1 = x0 at hm e0
    have e1 := mx_is x0 (pxOf (rd_T53 bl 1) v).f1
    generalize mx x0 (pxOf (rd_T53 bl 1) v).f1 = x1 at hm e1
    have e2 := mx_is x1 (pxOf (rd_T53 bl 2) v).f1
    generalize mx x1 (pxOf (rd_T53 bl 2) v).f1 = x2 at hm e2
    have e3 := mx_is x2 (pxOf (rd_T53 bl 3) v).f1
    generalize mx x2 (pxOf (rd_T53 bl 3) v).f1 = x3 at hm e3
    omega
  have hw : wrap64 ((wrap64 ((wrap64 ((wrap64 (Int.tdiv m 4)) + 1)) * 4)) + h) = (m / 4 + 1) * 4 + h := by
    rw [Int.tdiv_eq_ediv_of_nonneg m0.1]
    unfold wrap64
    clear hm hrun
    omega
  rw [hw] at hrun
  refine ⟨(m / 4 + 1) * 4 + h, by clear hm hrun; omega, by clear hm hrun; omega, by clear hm hrun; omega, rd4 _ ?_ ?_ ?_ ?_, hrun⟩
  all_goals (clear hm hrun; omega)
theorem nextBallot_open {h v : Int} {l : List S53} {k : Nat} (hk : 4 < k) (h0 : 0 ≤ h) (h4 : h < 4) (v0 : 0 ≤ v) (v1 : v ≤ 1000000) (hb : blocksB l = true) {n : Int} (hn : n ≤ 1000000) (hr : ∀ k, 4 < k → impl_nextBallot.f k h v l = some n) : impl_NextBallot.f (k + 1) h v l = some (n, 0) := by
  have hv : ∀ a b c, impl_within.f a b c = spec_l01In.f a b c := fun _ _ _ => rfl
  have h3 : h ≤ 3 := by omega
  have hL : ¬ (l.length : Int) > 4096 := by have := (blocks_in hb).1; omega
  unfold impl_NextBallot.f impl_Block_40.f impl_isHost.f impl_isVer.f
  simp only [hv, InR_eq, Option.bind_some, impl_blocks, hb, firsts3, impl_NextBallot.j0, hr (k + 1) (by omega), hr k hk, decide_eq_true h0, decide_eq_true h3, decide_eq_true v0, decide_eq_true v1, Bool.and_self, Bool.not_true, if_true, if_false, Bool.false_eq_true, decide_eq_false hL]
  simp
  omega
theorem start_open {h v n val : Int} (h0 : 0 ≤ h) (h4 : h < 4) (v0 : 0 ≤ v) (v1 : v ≤ 1000000) (n0 : 0 < n) (n1 : n ≤ 1000000) (nm : n % 4 = h) (x0 : 0 ≤ val) (x1 : val ≤ 2147483647) : impl_PxStart.f h v n val = some (h, v, 1, n, val, 0, 0, 0, 0) := by
  unfold impl_PxStart.f
  rw [(px_both h v 1 n val 0 0 0 0).2, pxB_mk ⟨by omega, by omega, by decide, by omega, by rw [Int.tmod_eq_emod_of_nonneg (by omega)]; exact nm, by omega, by decide, by decide, by decide⟩]
  rfl
/-! the draws -/
theorem next_lt {l : List Int} {a s : Int} (n : Int) (h : Src l a s) (hr : a + 3 ≤ 1099511627776) (hn : n ≤ 16777216) (h1 : 1 ≤ n) : ∃ r a' s', spec_l00Src_next.f l a s n = some (r, a', s') ∧ 0 ≤ r ∧ r < n ∧ a ≤ a' ∧ a' ≤ a + 3 ∧ Src l a' s' := by
  obtain ⟨r, a', s', e, l0, u0, _, b0, c0, hs⟩ := next_is n h hr hn
  exact ⟨r, a', s', e, l0, by omega, b0, c0, hs⟩
set_option maxHeartbeats 1000000 in
theorem px_is {l : List Int} (h : ∀ x ∈ l, (fun x : Int => (Lit.int .u8 x).wf = true) x) : ∃ p0 p1 p2 p3 p4 p5 p6 p7, spec_PxOf.f l = some (p0, p1, p2, p3, p4, p5, p6, p7) ∧ pxB p0 p1 p2 p3 p4 p5 p6 p7 = true ∧ p1 ≤ 2 ∧ p4 ≤ 8 := by
  obtain ⟨e, hs⟩ := source_is h
  obtain ⟨r0, a0, s0, e0, l0, u0, b0, c0, hs0⟩ := next_lt 4 hs (by omega) (by omega) (by omega)
  obtain ⟨r1, a1, s1, e1, l1, u1, b1, c1, hs1⟩ := next_lt 3 hs0 (by omega) (by omega) (by omega)
  obtain ⟨r2, a2, s2, e2, l2, u2, b2, c2, hs2⟩ := next_lt 6 hs1 (by omega) (by omega) (by omega)
  obtain ⟨r3, a3, s3, e3, l3, u3, b3, c3, hs3⟩ := next_lt 4 hs2 (by omega) (by omega) (by omega)
  obtain ⟨r4, a4, s4, e4, l4, u4, b4, c4, hs4⟩ := next_lt 9 hs3 (by omega) (by omega) (by omega)
  obtain ⟨r5, a5, s5, e5, l5, u5, b5, c5, hs5⟩ := next_lt 5 hs4 (by omega) (by omega) (by omega)
  obtain ⟨r6, a6, s6, e6, l6, u6, b6, c6, hs6⟩ := next_lt 9 hs5 (by omega) (by omega) (by omega)
  obtain ⟨r7, a7, s7, e7, l7, u7, b7, c7, hs7⟩ := next_lt 12 hs6 (by omega) (by omega) (by omega)
  have hpx : spec_l00Src_px.f l 0 ((l.length : Int) % 1000) = some (r0, r1, wrap64 (1 + r2), wrap64 ((wrap64 (4 * (wrap64 (1 + r3)))) + r0), r4, r5, r6, r7, a7, s7) := by
    unfold spec_l00Src_px.f
    exact bind_of e0 (bind_of e1 (bind_of e2 (bind_of e3 (bind_of e4 (bind_of e5 (bind_of e6 (bind_of e7 (by with_reducible rfl))))))))
  refine ⟨r0, r1, wrap64 (1 + r2), wrap64 ((wrap64 (4 * (wrap64 (1 + r3)))) + r0), r4, r5, r6, r7, (by unfold spec_PxOf.f; exact bind_of e (bind_of hpx (by with_reducible rfl))), ?_, by omega, by omega⟩
  rw [w64n (x := 1 + r2) (by omega) (by omega), w64n (x := 1 + r3) (by omega) (by omega), w64n (x := 4 * (1 + r3)) (by omega) (by omega), w64n (x := 4 * (1 + r3) + r0) (by omega) (by omega)]
  exact pxB_mk ⟨by omega, by omega, by omega, by omega, by rw [Int.tmod_eq_emod_of_nonneg (by omega)]; omega, by omega, by omega, by omega, by omega⟩
set_option maxHeartbeats 1000000 in
theorem block_is {l : List Int} {a s : Int} (hs : Src l a s) (ha : a ≤ 1000000) : ∃ b0 b1 b2 b3 a' s', spec_l00Src_block.f l a s = some (b0, b1, b2, b3, a', s') ∧ BOk ⟨b0, b1, b2, b3⟩ ∧ b1 ≤ 11 ∧ a ≤ a' ∧ a' ≤ a + 15 ∧ Src l a' s' := by
  obtain ⟨r0, a0, s0, e0, l0, u0, b0, c0, hs0⟩ := next_lt 3 hs (by omega) (by omega) (by omega)
  obtain ⟨r1, a1, s1, e1, l1, u1, b1, c1, hs1⟩ := next_lt 2 hs0 (by omega) (by omega) (by omega)
  obtain ⟨r2, a2, s2, e2, l2, u2, b2, c2, hs2⟩ := next_lt 12 hs1 (by omega) (by omega) (by omega)
  obtain ⟨r3, a3, s3, e3, l3, u3, b3, c3, hs3⟩ := next_lt (r2 + 1) hs2 (by omega) (by omega) (by omega)
  rw [← w64n (x := r2 + 1) (by omega) (by omega)] at e3
  have hv : 0 ≤ rd [0, r0] r1 ∧ rd [0, r0] r1 ≤ 2 := by
    have h01 : r1 = 0 ∨ r1 = 1 := by omega
    rcases h01 with rfl | rfl
    · exact ⟨Int.le_refl _, (by decide : (0 : Int) ≤ 2)⟩
    · exact ⟨l0, (by omega : r0 ≤ 2)⟩
  by_cases c : r3 > 0
  · obtain ⟨r4, a4, s4, e4, l4, u4, b4, c4, hs4⟩ := next_lt 9 hs3 (by omega) (by omega) (by omega)
    refine ⟨rd [0, r0] r1, r2, r3, r4, a4, s4, ?_, ?_, by omega, by omega, by omega, hs4⟩
    · unfold spec_l00Src_block.f
      refine bind_of e0 (bind_of e1 ?_)
      dsimp only
      rw [if_pos ⟨l1, by omega⟩]
      refine bind_of e2 (bind_of e3 ?_)
      dsimp only
      rw [if_pos c]
      exact bind_of e4 (by with_reducible rfl)
    · unfold BOk
      dsimp only
      omega
  · refine ⟨rd [0, r0] r1, r2, r3, 0, a3, s3, ?_, ?_, by omega, by omega, by omega, hs3⟩
    · unfold spec_l00Src_block.f
      refine bind_of e0 (bind_of e1 ?_)
      dsimp only
      rw [if_pos ⟨l1, by omega⟩]
      refine bind_of e2 (bind_of e3 ?_)
      dsimp only
      rw [if_neg c]
    · unfold BOk
      dsimp only
      omega
theorem blocks_are {l : List Int} (h : ∀ x ∈ l, (fun x : Int => (Lit.int .u8 x).wf = true) x) : ∃ lb, spec_BlocksOf.f l = some lb ∧ blocksB lb = true ∧ ∀ g, 0 ≤ g → g < 4 → (rd_T53 lb g).f1 ≤ 11 := by
  obtain ⟨e, hs⟩ := source_is h
  obtain ⟨x0, x1, x2, x3, a1, s1, e1, k1, m1, _, c1, hs1⟩ := block_is hs (by omega)
  obtain ⟨y0, y1, y2, y3, a2, s2, e2, k2, m2, _, c2, hs2⟩ := block_is hs1 (by omega)
  obtain ⟨z0, z1, z2, z3, a3, s3, e3, k3, m3, _, c3, hs3⟩ := block_is hs2 (by omega)
  obtain ⟨u0, u1, u2, u3, a4, s4, e4, k4, m4, _, c4, hs4⟩ := block_is hs3 (by omega)
  have hbl : spec_l00Src_blocks.f l 0 ((l.length : Int) % 1000) = some ([⟨x0, x1, x2, x3⟩, ⟨y0, y1, y2, y3⟩, ⟨z0, z1, z2, z3⟩, ⟨u0, u1, u2, u3⟩], a4, s4) := by
    unfold spec_l00Src_blocks.f
    exact bind_of e1 (bind_of e2 (bind_of e3 (bind_of e4 (by with_reducible rfl))))
  refine ⟨[⟨x0, x1, x2, x3⟩, ⟨y0, y1, y2, y3⟩, ⟨z0, z1, z2, z3⟩, ⟨u0, u1, u2, u3⟩], (by unfold spec_BlocksOf.f; exact bind_of e (bind_of hbl (by with_reducible rfl))), ?_, rd4 _ m1 m2 m3 m4⟩
  have q1 := (blkP_iff _).2 k1
  have q2 := (blkP_iff _).2 k2
  have q3 := (blkP_iff _).2 k3
  have q4 := (blkP_iff _).2 k4
  unfold blocksB
  simp [q1, q2, q3, q4]
theorem impl_block {a b c d : Int} (h : BOk ⟨a, b, c, d⟩) : impl_BlockOK.f a b c d = some true := by
  have hv : ∀ a b c, impl_within.f a b c = spec_l01In.f a b c := fun _ _ _ => rfl
  have h2 : impl_BlockOK.f a b c d = spec_BlockOK.f a b c d := by
    unfold impl_BlockOK.f spec_BlockOK.f impl_isVer.f impl_isNumber.f
    simp only [hv, InR_eq, Option.bind_some]
  rw [h2, spec_block]
  have := (blkP_iff ⟨a, b, c, d⟩).2 h
  exact congrArg some this
theorem sameBlocks_self (a : List S53) (hn : a.length ≤ 1000) (d : Nat) : ∀ (k i : Nat), i + d = a.length → d < k → laws_sameBlocks.l0 k a a (i : Int) = some true := by
  induction d with
  | zero =>
    intro k i hi hk
    obtain ⟨k, rfl⟩ : ∃ m, k = m + 1 := ⟨k - 1, by omega⟩
    simp only [laws_sameBlocks.l0]
    rw [if_neg (by omega)]
  | succ d ih =>
    intro k i hi hk
    obtain ⟨k, rfl⟩ : ∃ m, k = m + 1 := ⟨k - 1, by omega⟩
    simp only [laws_sameBlocks.l0]
    rw [if_pos (by omega), if_pos (by omega), if_pos (by omega), if_neg (by simp), wrap_small (n := a.length) (by omega) (by omega)]
    exact ih k (i + 1) (by omega) (by omega)

theorem ballot_tail (l0 l1 : List Int) (h0 : ∀ x ∈ l0, (fun x : Int => (Lit.int .u8 x).wf = true) x) (h1 : ∀ x ∈ l1, (fun x : Int => (Lit.int .u8 x).wf = true) x) : ∃ (p0 p1 p2 p3 p4 p5 p6 p7 n c q1 q2 q3 q4 q5 q6 q7 q8 : Int) (lb lq : List S53), spec_PxOf.f l0 = some (p0, p1, p2, p3, p4, p5, p6, p7) ∧ spec_BlocksOf.f l1 = some lb ∧ impl_NextBallot.f 10000 p0 p1 lb = some (n, 0) ∧ impl_PxStep.f 10000 p0 p1 p2 p3 p4 p5 p6 p7 lb = some (q1, q2, q3, q4, q5, q6, q7, q8, lq, c) ∧ spec_PxStep.f 10000 p0 p1 p2 p3 p4 p5 p6 p7 lb = some (q1, q2, q3, q4, q5, q6, q7, q8, lq, c) ∧ Int.tmod n 4 = p0 ∧ laws_sameBlocks.f 10000 lq lq = some true ∧ lq.length = 4 ∧ lb.length = 4 ∧ impl_PxOK.f q1 q2 q3 q4 q5 q6 q7 q8 = some true ∧ (∀ h : Int, 0 ≤ h → h < 4 → ¬ (p1 ≤ (rd_T53 lb h).f0 ∧ n ≤ (rd_T53 lb h).f1) ∧ (h ≠ p0 → rd_T53 lq h = rd_T53 lb h) ∧ impl_BlockOK.f (rd_T53 lq h).f0 (rd_T53 lq h).f1 (rd_T53 lq h).f2 (rd_T53 lq h).f3 = some true ∧ ((rd_T53 lq h).f0 = (rd_T53 lb h).f0 → ¬ (rd_T53 lq h).f1 < (rd_T53 lb h).f1)) ∧ impl_PxStart.f p0 p1 n p4 = some (p0, p1, 1, n, p4, 0, 0, 0, 0) := by
  obtain ⟨p0, p1, p2, p3, p4, p5, p6, p7, e1, hp, hp1, hp4⟩ := px_is h0
  obtain ⟨lb, e2, hb, hm⟩ := blocks_are h1
  obtain ⟨hl, hall⟩ := blocks_in hb
  obtain ⟨b0, b1, b2, b3, b4, b5, b6, b7, b8⟩ := pxB_bounds hp
  obtain ⟨n, n0, n1, nm, ng, hr⟩ := next_val (N := 11) (h := p0) (v := p1) hl (fun g g0 g4 => by
    obtain ⟨o1, _, o3⟩ := of_ok (hall g g0 g4) b1.1 b1.2
    unfold BOk at o1
    have := hm g g0 g4
    refine ⟨o1.2.1.1, ?_⟩
    unfold pxOf
    by_cases c : (rd_T53 lb g).f0 < p1
    · rw [if_pos c]; exact (by decide : (0 : Int) ≤ 11)
    · rw [if_neg c]; exact this) b0.1 b0.2 (by decide)
  obtain ⟨q1, q2, q3, q4, q5, q6, q7, q8, lq, c, e5, e4, hq, hlq, hg⟩ := step_open (k := 9999) (by decide) hp hb
  have e3 := nextBallot_open (k := 9999) (by decide) b0.1 b0.2 b1.1 b1.2 hb (by omega) hr
  refine ⟨p0, p1, p2, p3, p4, p5, p6, p7, n, c, q1, q2, q3, q4, q5, q6, q7, q8, lb, lq, e1, e2, e3, e4, e5, by rw [Int.tmod_eq_emod_of_nonneg (by omega)]; exact nm, ?_, hlq, hl, ?_, fun h g0 g4 => ?_, start_open b0.1 b0.2 b1.1 b1.2 n0 (by omega) nm b5.1 b5.2⟩
  · unfold laws_sameBlocks.f
    rw [if_pos rfl]
    exact sameBlocks_self _ (by omega) 4 10000 0 (by omega) (by omega)
  · rw [(px_both q1 q2 q3 q4 q5 q6 q7 q8 0).2, hq]
  · obtain ⟨x1, x2, x3⟩ := hg h g0 g4
    refine ⟨fun y => ?_, x1, impl_block x2, fun y => by have := x3 y; omega⟩
    have hx := ng h g0 g4
    unfold pxOf at hx
    rw [if_neg (by omega)] at hx
    omega
theorem FnBallot (l0 : List Int) (l1 : List Int) (_ : l0.length ≤ maxLen) (h0 : ∀ x ∈ l0, (fun x : Int => (Lit.int .u8 x).wf = true) x) (_ : l1.length ≤ maxLen) (h1 : ∀ x ∈ l1, (fun x : Int => (Lit.int .u8 x).wf = true) x) : ∃ k, laws_FnBallot.F k l0 l1 true := by
  refine ⟨10000, rfl, ?_⟩
  by_cases g0 : (l0.length : Int) > 1048576
  · exact .inl g0
  by_cases g1 : (l1.length : Int) > 1048576
  · exact .inr (.inl ⟨g0, g1⟩)
  exact .inr (.inr ⟨g0, g1, ballot_tail l0 l1 h0 h1⟩)
end Go.Proofs.Ytlclbdfcniiolaa.Pure
