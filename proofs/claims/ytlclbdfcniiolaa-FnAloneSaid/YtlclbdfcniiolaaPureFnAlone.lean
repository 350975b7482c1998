/- A host that takes all steps alone decides, and later ones decide what it did: for codes of bytes of any length. -/
import Derived.Test.YtlclbdfcniiolaaQ2
import Derived.Test.YtlclbdfcniiolaaQ1
import Derived.Test.YtlclbdfcniiolaaHandRp
import Derived.KernelRfl
set_option linter.unusedSimpArgs false
set_option linter.unusedVariables false
namespace Go.Proofs.Ytlclbdfcniiolaa.Pure
open Go.RowKit Go.Proofs.Ytlclbdfcniiolaa.Q Go.Proofs.Ytlclbdfcniiolaa.Hand Go.Proofs.YtlclbdfcniiolaaW.PrintWords Go.Proofs.YtlclbdfcniiolaaW.PrintLast Go.Proofs.YtlclbdfcniiolaaW.PrintMore
theorem wrap_small {i n : Nat} (h : i < n) (hn : n ≤ 35184372088832) : wrap64 ((i : Int) + 1) = ((i + 1 : Nat) : Int) := by unfold wrap64; omega
theorem rd_get (l : List Int) (i : Nat) (h : i < l.length) : rd l (i : Int) = l[i] := by
  simp [rd, List.getD_eq_getElem?_getD, List.getElem?_eq_getElem h]
theorem w64n {x : Int} (h1 : -9223372036854775808 ≤ x) (h2 : x ≤ 9223372036854775807) : wrap64 x = x := by unfold wrap64; omega
theorem rd_in {l : List Int} {a : Int} (h0 : 0 ≤ a) (h : a < (l.length : Int)) : rd l a ∈ l := by
  unfold rd
  rw [List.getD_eq_getElem?_getD, List.getElem?_eq_getElem (by omega : a.toNat < l.length)]
  exact List.getElem_mem _
theorem at_is {l : List Int} (i n : Int) (h : ∀ x ∈ l, 0 ≤ x ∧ x ≤ 255) (hi : 0 ≤ i ∧ i ≤ 1000) (hn : 2 ≤ n) (hl : l.length ≤ 140737488351232) : ∃ r, laws_at.f l i n = some r ∧ 0 ≤ r ∧ r < n := by
  unfold laws_at.f
  rw [if_neg (by omega)]
  by_cases h0 : (l.length : Int) = 0
  · rw [if_pos h0, if_neg (by omega), w64n (by omega) (by omega), Int.tmod_eq_emod_of_nonneg (by omega)]
    exact ⟨_, rfl, Int.emod_nonneg _ (by omega), Int.emod_lt_of_pos _ (by omega)⟩
  · rw [if_neg h0, w64n (x := i + 1) (by omega) (by omega), Int.tmod_eq_emod_of_nonneg (by omega : 0 ≤ i), Int.tmod_eq_emod_of_nonneg (by omega : 0 ≤ i + 1)]
    have m0 := Int.emod_nonneg i h0
    have m1 := Int.emod_lt_of_pos i (show (0 : Int) < (l.length : Int) by omega)
    have m2 := Int.emod_nonneg (i + 1) h0
    have m3 := Int.emod_lt_of_pos (i + 1) (show (0 : Int) < (l.length : Int) by omega)
    rw [if_pos m0, if_pos m1, if_pos m2, if_pos m3, if_neg (by omega)]
    have r0 := h _ (rd_in m0 m1)
    have r1 := h _ (rd_in m2 m3)
    have t : Int.tdiv i (l.length : Int) = i / (l.length : Int) := Int.tdiv_eq_ediv_of_nonneg (by omega)
    have t0 : 0 ≤ i / (l.length : Int) := Int.ediv_nonneg (by omega) (by omega)
    have t1 : i / (l.length : Int) ≤ i := Int.ediv_le_self _ (by omega)
    generalize rd l (i % (l.length : Int)) = x at r0 ⊢
    generalize rd l ((i + 1) % (l.length : Int)) = y at r1 ⊢
    rw [t]
    generalize i / (l.length : Int) = z at t0 t1 ⊢
    rw [w64n (x := x) (by omega) (by omega), w64n (x := x * 31) (by omega) (by omega), w64n (x := y) (by omega) (by omega), w64n (x := x * 31 + y) (by omega) (by omega), w64n (x := z) (by omega) (by omega), w64n (x := x * 31 + y + z) (by omega) (by omega), Int.tmod_eq_emod_of_nonneg (by omega)]
    exact ⟨_, rfl, Int.emod_nonneg _ (by omega), Int.emod_lt_of_pos _ (by omega)⟩

/-! what is kept: of one host (its ballot p, its block b), of two (a host h that may have decided v at ballot n; another's p, b), of all -/
def Own (l0 : List Int) (N g : Int) (p : S26) (b : S53) : Prop :=
  (b.f0 = 0 ∧ 0 ≤ b.f2 ∧ b.f2 ≤ b.f1 ∧ b.f1 ≤ N) ∧ (0 < b.f2 → b.f2 % 4 = g) ∧ (0 < b.f2 → b.f3 ∈ l0) ∧
  (p.f2 = 0 ∨ (p.f0 = g ∧ p.f1 = 0 ∧ 1 ≤ p.f2 ∧ p.f2 ≤ 6 ∧ 0 < p.f3 ∧ p.f3 ≤ N ∧ p.f3 % 4 = g ∧ 0 ≤ p.f5 ∧ p.f5 ≤ 4 ∧ 0 ≤ p.f7)) ∧ (p.f2 ≠ 0 → p.f4 ∈ l0) ∧ (p.f2 ≠ 0 → 0 < p.f7 → p.f6 ∈ l0) ∧
  ((p.f2 = 2 ∨ p.f2 = 3) → b.f1 = p.f3) ∧ ((p.f2 = 4 ∨ p.f2 = 5) → b.f1 = p.f3 ∧ b.f2 = p.f3 ∧ b.f3 = p.f4)
def Good (n v h : Int) (p : S26) (b : S53) : Prop :=
  (n ≤ b.f2 → b.f3 = v) ∧ (p.f2 = 2 → n < p.f3 → n ≤ p.f7 → p.f6 = v) ∧ (p.f2 = 2 → n < p.f3 → h < p.f5 → n ≤ p.f7) ∧ (p.f2 = 3 → n < p.f3 → p.f4 = v)
def Inv (l0 : List Int) (N : Int) (P : Int → S26) (B : Int → S53) : Prop :=
  (∀ g, 0 ≤ g → g < 4 → Own l0 N g (P g) (B g)) ∧
  ∀ h, 0 ≤ h → h < 4 → (P h).f2 = 4 ∨ (P h).f2 = 5 → ((P h).f2 = 4 ∧ ∃ k, 0 ≤ k ∧ k < 4 ∧ k ≠ h ∧ (P h).f5 ≤ k ∧ (P h).f3 < (B k).f1) ∨ ∀ g, 0 ≤ g → g < 4 → Good (P h).f3 (P h).f4 h (P g) (B g)
theorem Own.blk {l0 : List Int} {N g : Int} {p : S26} {b : S53} (h : Own l0 N g p b) : b.f0 = 0 ∧ 0 ≤ b.f2 ∧ b.f2 ≤ b.f1 ∧ b.f1 ≤ N := h.1
theorem Own.bal {l0 : List Int} {N g : Int} {p : S26} {b : S53} (h : Own l0 N g p b) (hb : 0 < b.f2) : b.f2 % 4 = g := h.2.1 hb
theorem Own.inp {l0 : List Int} {N g : Int} {p : S26} {b : S53} (h : Own l0 N g p b) (hb : 0 < b.f2) : b.f3 ∈ l0 := h.2.2.1 hb
theorem Own.act {l0 : List Int} {N g : Int} {p : S26} {b : S53} (h : Own l0 N g p b) (hp : p.f2 ≠ 0) : p.f0 = g ∧ p.f1 = 0 ∧ 1 ≤ p.f2 ∧ p.f2 ≤ 6 ∧ 0 < p.f3 ∧ p.f3 ≤ N ∧ p.f3 % 4 = g ∧ 0 ≤ p.f5 ∧ p.f5 ≤ 4 ∧ 0 ≤ p.f7 := by
  rcases h.2.2.2.1 with x | x
  · exact absurd x hp
  · exact x
theorem Own.val {l0 : List Int} {N g : Int} {p : S26} {b : S53} (h : Own l0 N g p b) (hp : p.f2 ≠ 0) : p.f4 ∈ l0 := h.2.2.2.2.1 hp
theorem Own.best {l0 : List Int} {N g : Int} {p : S26} {b : S53} (h : Own l0 N g p b) (hp : p.f2 ≠ 0) (hb : 0 < p.f7) : p.f6 ∈ l0 := h.2.2.2.2.2.1 hp hb
theorem Own.two {l0 : List Int} {N g : Int} {p : S26} {b : S53} (h : Own l0 N g p b) (hp : p.f2 = 2 ∨ p.f2 = 3) : b.f1 = p.f3 := h.2.2.2.2.2.2.1 hp
theorem Own.four {l0 : List Int} {N g : Int} {p : S26} {b : S53} (h : Own l0 N g p b) (hp : p.f2 = 4 ∨ p.f2 = 5) : b.f1 = p.f3 ∧ b.f2 = p.f3 ∧ b.f3 = p.f4 := h.2.2.2.2.2.2.2 hp
theorem Own.mono {l0 : List Int} {N N' g : Int} {p : S26} {b : S53} (h : Own l0 N g p b) (hN : N ≤ N') : Own l0 N' g p b := by
  have hb := h.blk
  refine ⟨⟨hb.1, hb.2.1, hb.2.2.1, by omega⟩, fun x => h.bal x, fun x => h.inp x, ?_, fun x => h.val x, fun x y => h.best x y, fun x => h.two x, fun x => h.four x⟩
  by_cases e : p.f2 = 0
  · exact .inl e
  · have ha := h.act e
    exact .inr (by omega)
theorem Good.of_block {n v h : Int} {p p' : S26} {b : S53} (hG : Good n v h p b) (hp : p'.f2 ≠ 2 ∧ p'.f2 ≠ 3) : Good n v h p' b := ⟨hG.1, fun x => absurd x hp.1, fun x => absurd x hp.1, fun x => absurd x hp.2⟩
section
variable {l0 : List Int} {N N' a : Int} {P P' : Int → S26} {B B' : Int → S53} {p' : S26} {b' : S53}
theorem inv_upd (hI : Inv l0 N P B) (hN : N ≤ N') (ha0 : 0 ≤ a) (ha4 : a < 4) (hPa : P' a = p') (hBa : B' a = b') (hPo : ∀ g, 0 ≤ g → g < 4 → g ≠ a → P' g = P g) (hBo : ∀ g, 0 ≤ g → g < 4 → g ≠ a → B' g = B g)
    (hown : Own l0 N' a p' b') (hf1 : (B a).f1 ≤ b'.f1)
    (hgood : ∀ h, 0 ≤ h → h < 4 → h ≠ a → (P h).f3 % 4 = h ∧ 0 < (P h).f3 ∧ (B h).f2 = (P h).f3 ∧ (B h).f3 = (P h).f4 → (∀ g, 0 ≤ g → g < 4 → Good (P h).f3 (P h).f4 h (P g) (B g)) → Good (P h).f3 (P h).f4 h p' b')
    (hself : p'.f2 = 4 ∨ p'.f2 = 5 → (p'.f2 = 4 ∧ ∃ k, 0 ≤ k ∧ k < 4 ∧ k ≠ a ∧ p'.f5 ≤ k ∧ p'.f3 < (B k).f1) ∨ (∀ g, 0 ≤ g → g < 4 → g ≠ a → Good p'.f3 p'.f4 a (P g) (B g))) : Inv l0 N' P' B' := by
  refine ⟨fun g h0 h4 => ?_, fun h h0 h4 hph => ?_⟩
  · by_cases e : g = a
    · subst e
      rw [hPa, hBa]
      exact hown
    · rw [hPo g h0 h4 e, hBo g h0 h4 e]
      exact (hI.1 g h0 h4).mono hN
  · by_cases e : h = a
    · subst e
      rw [hPa] at hph ⊢
      rcases hself hph with ⟨h5, k, k0, k4, ke, k5, k3⟩ | hG
      · exact .inl ⟨h5, k, k0, k4, ke, k5, by rw [hBo k k0 k4 ke]; exact k3⟩
      · refine .inr fun g g0 g4 => ?_
        by_cases eg : g = h
        · subst eg
          rw [hPa, hBa]
          have h8 := hown.four hph
          have hp2 : p'.f2 ≠ 2 ∧ p'.f2 ≠ 3 := by clear hself hgood hG; omega
          exact ⟨fun _ => h8.2.2, fun x => absurd x hp2.1, fun x => absurd x hp2.1, fun x => absurd x hp2.2⟩
        · rw [hPo g g0 g4 eg, hBo g g0 g4 eg]
          exact hG g g0 g4 eg
    · have ho := hI.1 h h0 h4
      rw [hPo h h0 h4 e] at hph ⊢
      rcases hI.2 h h0 h4 hph with ⟨h5, k, k0, k4, ke, k5, k3⟩ | hG
      · refine .inl ⟨h5, k, k0, k4, ke, k5, ?_⟩
        by_cases ek : k = a
        · subst ek
          rw [hBa]
          exact Int.lt_of_lt_of_le k3 hf1
        · rw [hBo k k0 k4 ek]
          exact k3
      · refine .inr fun g g0 g4 => ?_
        by_cases eg : g = a
        · subst eg
          rw [hPa, hBa]
          have h8 := ho.four hph
          have hp0 : (P h).f2 ≠ 0 := by clear hself hgood hG; omega
          have h4' := ho.act hp0
          exact hgood h h0 h4 e ⟨h4'.2.2.2.2.2.2.1, h4'.2.2.2.2.1, h8.2.1, h8.2.2⟩ hG
        · rw [hPo g g0 g4 eg, hBo g g0 g4 eg]
          exact hG g g0 g4
/-- A ballot begins, or has been broken off: the block stays. -/
theorem inv_idle (hI : Inv l0 N P B) (hN : N ≤ N') (ha0 : 0 ≤ a) (ha4 : a < 4) (hPa : P' a = p') (hB : B' = B) (hPo : ∀ g, 0 ≤ g → g < 4 → g ≠ a → P' g = P g) (hph : p'.f2 = 1 ∨ p'.f2 = 6)
    (h : p'.f0 = a ∧ p'.f1 = 0 ∧ 0 < p'.f3 ∧ p'.f3 ≤ N' ∧ p'.f3 % 4 = a ∧ 0 ≤ p'.f5 ∧ p'.f5 ≤ 4 ∧ 0 ≤ p'.f7) (hv : p'.f4 ∈ l0) (hb : 0 < p'.f7 → p'.f6 ∈ l0) : Inv l0 N' P' B' := by
  subst hB
  have ho := (hI.1 a ha0 ha4).mono hN
  have hp2 : p'.f2 ≠ 2 ∧ p'.f2 ≠ 3 ∧ p'.f2 ≠ 4 ∧ p'.f2 ≠ 5 ∧ 1 ≤ p'.f2 ∧ p'.f2 ≤ 6 := by clear hb; omega
  refine inv_upd hI hN ha0 ha4 hPa rfl hPo (fun _ _ _ _ => rfl) ?_ (Int.le_refl _) ?_ (fun x => absurd x (by clear hb; omega))
  · exact ⟨ho.blk, fun x => ho.bal x, fun x => ho.inp x, .inr ⟨h.1, h.2.1, hp2.2.2.2.2.1, hp2.2.2.2.2.2, h.2.2⟩, fun _ => hv, fun _ => hb, fun x => absurd x (by clear hb; omega), fun x => absurd x (by clear hb; omega)⟩
  · intro g _ _ _ _ hG
    exact (hG a ha0 ha4).of_block ⟨hp2.1, hp2.2.1⟩
/-- The first writing. -/
theorem inv_write1 (hI : Inv l0 N P B) (ha0 : 0 ≤ a) (ha4 : a < 4) (hPo : ∀ g, 0 ≤ g → g < 4 → g ≠ a → P' g = P g) (hBo : ∀ g, 0 ≤ g → g < 4 → g ≠ a → B' g = B g) (hph : (P a).f2 = 1) (hlt : (B a).f1 < (P a).f3)
    (hPa : P' a = ⟨a, 0, 2, (P a).f3, (P a).f4, 0, (B a).f3, (B a).f2⟩) (hBa : B' a = ⟨0, (P a).f3, (B a).f2, (B a).f3⟩) : Inv l0 N P' B' := by
  have ho := hI.1 a ha0 ha4
  have hb := ho.blk
  have hne : (P a).f2 ≠ 0 := by omega
  have hp := ho.act hne
  refine inv_upd hI (Int.le_refl _) ha0 ha4 hPa hBa hPo hBo ?_ (by dsimp only; omega) ?_ (fun x => by dsimp only at x; omega)
  · refine ⟨?_, fun x => ho.bal x, fun x => ho.inp x, ?_, fun _ => ho.val hne, fun _ x => ho.inp x, fun _ => rfl, fun x => ?_⟩
    · dsimp only; omega
    · dsimp only; exact .inr (by omega)
    · dsimp only at x; omega
  · intro g g0 g4 _ _ hG
    have hG := hG a ha0 ha4
    refine ⟨hG.1, fun _ _ => hG.1, fun _ _ x => ?_, fun x => ?_⟩
    · dsimp only at x; omega
    · dsimp only at x; omega
/-- The second writing. -/
theorem inv_write2 (hI : Inv l0 N P B) (ha0 : 0 ≤ a) (ha4 : a < 4) (hPo : ∀ g, 0 ≤ g → g < 4 → g ≠ a → P' g = P g) (hBo : ∀ g, 0 ≤ g → g < 4 → g ≠ a → B' g = B g) (hph : (P a).f2 = 3)
    (hPa : P' a = ⟨a, 0, 4, (P a).f3, (P a).f4, 0, (P a).f6, (P a).f7⟩) (hBa : B' a = ⟨0, (P a).f3, (P a).f3, (P a).f4⟩) : Inv l0 N P' B' := by
  have ho := hI.1 a ha0 ha4
  have hb := ho.blk
  have hne : (P a).f2 ≠ 0 := by omega
  have hp := ho.act hne
  have hw := ho.two (.inr hph)
  refine inv_upd hI (Int.le_refl _) ha0 ha4 hPa hBa hPo hBo ?_ (by dsimp only; omega) ?_ ?_
  · refine ⟨?_, fun _ => ?_, fun _ => ho.val hne, ?_, fun _ => ho.val hne, fun _ x => ho.best hne x, fun _ => rfl, fun _ => ⟨rfl, rfl, rfl⟩⟩
    · dsimp only; omega
    · dsimp only; omega
    · dsimp only; exact .inr (by omega)
  · intro g g0 g4 ge gm hG
    have hG := hG a ha0 ha4
    refine ⟨fun x => ?_, fun x => ?_, fun x => ?_, fun x => ?_⟩
    · dsimp only at x ⊢
      exact hG.2.2.2 hph (by clear hG; omega)
    · dsimp only at x; omega
    · dsimp only at x; omega
    · dsimp only at x; omega
  · intro _
    dsimp only
    by_cases hx : ∃ k, 0 ≤ k ∧ k < 4 ∧ k ≠ a ∧ (P a).f3 < (B k).f1
    · obtain ⟨k, k0, k4, ke, k3⟩ := hx
      exact .inl ⟨rfl, k, k0, k4, ke, k0, k3⟩
    · refine .inr fun g g0 g4 ge => ?_
      have hle : (B g).f1 ≤ (P a).f3 := Int.not_lt.1 fun hlt => hx ⟨g, g0, g4, ge, hlt⟩
      clear hx
      have og := hI.1 g g0 g4
      have ob := og.blk
      refine ⟨fun x => ?_, fun x y => ?_, fun x y => ?_, fun x y => ?_⟩
      · have := og.bal (by omega)
        omega
      · have := og.two (.inl x)
        omega
      · have := og.two (.inl x)
        omega
      · have := og.two (.inr x)
        omega
/-- A reading: s is the place that is looked at (at 4 or above: none), nx what is next. -/
theorem inv_read (hI : Inv l0 N P B) (ha0 : 0 ≤ a) (ha4 : a < 4) (hPo : ∀ g, 0 ≤ g → g < 4 → g ≠ a → P' g = P g) (hB : B' = B) (hph : (P a).f2 = 2 ∨ (P a).f2 = 4) {s nx best bb ph val : Int}
    (hs : ((P a).f5 = a ∧ s = (P a).f5 + 1) ∨ ((P a).f5 ≠ a ∧ s = (P a).f5))
    (hl : (s < 4 ∧ (B s).f1 ≤ (P a).f3 ∧ ((s + 1 = a ∧ nx = s + 2) ∨ (s + 1 ≠ a ∧ nx = s + 1)) ∧ (((P a).f2 = 2 ∧ (P a).f7 < (B s).f2 ∧ best = (B s).f3 ∧ bb = (B s).f2) ∨ (((P a).f2 = 4 ∨ (B s).f2 ≤ (P a).f7) ∧ best = (P a).f6 ∧ bb = (P a).f7))) ∨ (4 ≤ s ∧ nx = s ∧ best = (P a).f6 ∧ bb = (P a).f7))
    (hr : (nx < 4 ∧ ph = (P a).f2 ∧ val = (P a).f4) ∨ (4 ≤ nx ∧ (P a).f2 = 4 ∧ ph = 5 ∧ val = (P a).f4) ∨ (4 ≤ nx ∧ (P a).f2 = 2 ∧ ph = 3 ∧ ((0 < bb ∧ val = best) ∨ (bb ≤ 0 ∧ val = (P a).f4))))
    (hPa : P' a = ⟨a, 0, ph, (P a).f3, val, nx, best, bb⟩) : Inv l0 N P' B' := by
  subst hB
  have ho := hI.1 a ha0 ha4
  have hne : (P a).f2 ≠ 0 := by clear hl hr; omega
  have hp := ho.act hne
  have hs0 : 0 ≤ s := by clear hl hr; omega
  have hos := hI.1 s hs0
  have hbest : 0 < bb → best ∈ l0 := by
    intro hb
    rcases hl with ⟨hs4, _, _, ⟨_, _, e1, e2⟩ | ⟨_, e1, e2⟩⟩ | ⟨_, _, e1, e2⟩
    · rw [e1]
      exact (hos hs4).inp (by rw [← e2]; exact hb)
    · rw [e1]; exact ho.best hne (by rw [← e2]; exact hb)
    · rw [e1]; exact ho.best hne (by rw [← e2]; exact hb)
  have hbb : 0 ≤ bb ∧ (P a).f7 ≤ bb := by clear hr hs; omega
  have hnx : 0 ≤ nx ∧ nx ≤ 4 := by
    clear hr
    rcases hl with ⟨hs4, _, e, _⟩ | ⟨_, e, _, _⟩
    · omega
    · omega
  have hph' : (ph = 2 ∧ (P a).f2 = 2 ∧ nx < 4) ∨ (ph = 4 ∧ (P a).f2 = 4 ∧ nx < 4 ∧ val = (P a).f4) ∨ (ph = 5 ∧ (P a).f2 = 4 ∧ 4 ≤ nx ∧ val = (P a).f4) ∨ (ph = 3 ∧ (P a).f2 = 2 ∧ 4 ≤ nx ∧ (0 < bb → val = best)) := by
    rcases hr with ⟨h1, h2, h3⟩ | ⟨h1, h2, h3, h4⟩ | ⟨h1, h2, h3, h4⟩
    · rcases hph with x | x
      · exact .inl ⟨by rw [h2]; exact x, x, h1⟩
      · exact .inr (.inl ⟨by rw [h2]; exact x, x, h1, h3⟩)
    · exact .inr (.inr (.inl ⟨h3, h2, h1, h4⟩))
    · refine .inr (.inr (.inr ⟨h3, h2, h1, fun hb => ?_⟩))
      rcases h4 with ⟨_, e⟩ | ⟨x, _⟩
      · exact e
      · exact absurd hb (by clear hl; omega)
  have hval : val ∈ l0 := by
    rcases hr with ⟨_, _, e⟩ | ⟨_, _, _, e⟩ | ⟨_, _, _, ⟨hb, e⟩ | ⟨_, e⟩⟩
    · rw [e]; exact ho.val hne
    · rw [e]; exact ho.val hne
    · rw [e]; exact hbest hb
    · rw [e]; exact ho.val hne
  clear hr
  have HL := Aside0.mk hl
  have HS := Aside0.mk hs
  clear hl hs
  refine inv_upd hI (Int.le_refl _) ha0 ha4 hPa rfl hPo (fun _ _ _ _ => rfl) ?_ (Int.le_refl _) ?_ ?_
  · refine ⟨ho.blk, fun x => ho.bal x, fun x => ho.inp x, ?_, fun _ => hval, fun _ => hbest, fun x => ?_, fun x => ?_⟩
    · clear hbest
      dsimp only
      exact .inr (by omega)
    · dsimp only at x
      exact ho.two (.inl (by clear hbest; omega))
    · dsimp only at x ⊢
      have h8 := ho.four (.inl (by clear hbest; omega))
      exact ⟨h8.1, h8.2.1, h8.2.2.trans (by clear hbest; omega)⟩
  · intro h h0 h4' he hm hG
    have hGa := hG a ha0 ha4
    have key : (P a).f2 = 2 → (P h).f3 < (P a).f3 → ((P h).f3 ≤ bb → best = (P h).f4) ∧ (h < nx → (P h).f3 ≤ bb) := by
      intro x y
      have g2 := hGa.2.1 x y
      have g3 := hGa.2.2.1 x y
      rcases HL.out with ⟨hs4, hsf, hnx', hup⟩ | ⟨hs4, hnx', e1, e2⟩
      · have hGs := (hG s hs0 hs4).1
        refine ⟨fun z => ?_, fun z => ?_⟩
        · rcases hup with ⟨_, _, e1, e2⟩ | ⟨_, e1, e2⟩
          · rw [e1]; exact hGs (by rw [← e2]; exact z)
          · rw [e1]; exact g2 (by rw [← e2]; exact z)
        · by_cases hlt : h < (P a).f5
          · have := g3 hlt
            exact Int.le_trans this hbb.2
          · have e : h = s := by
              clear g2 g3 hGs hup hph' hbest
              have := HS.out
              omega
            rw [← e] at hup
            clear g2 g3 hGs hph' hbest
            omega
      · refine ⟨fun z => by rw [e1]; exact g2 (by rw [← e2]; exact z), fun z => ?_⟩
        have := g3 (by
          clear g2 g3 hph' hbest
          have := HS.out
          omega)
        exact Int.le_trans this hbb.2
    refine ⟨hGa.1, fun x y => ?_, fun x y => ?_, fun x y => ?_⟩
    · dsimp only at x y ⊢
      exact (key (by clear key hbest; omega) y).1
    · dsimp only at x y ⊢
      exact (key (by clear key hbest; omega) y).2
    · dsimp only at x y ⊢
      obtain ⟨x2, x4, xv⟩ : (P a).f2 = 2 ∧ 4 ≤ nx ∧ (0 < bb → val = best) := by
        rcases hph' with ⟨e, _⟩ | ⟨e, _⟩ | ⟨e, _⟩ | ⟨_, e⟩
        · rw [e] at x; exact absurd x (by decide)
        · rw [e] at x; exact absurd x (by decide)
        · rw [e] at x; exact absurd x (by decide)
        · exact e
      have hk := key x2 y
      have hb := hk.2 (by clear hk key xv hph' hbest; omega)
      rw [xv (by clear hk key xv hph' hbest; omega)]
      exact hk.1 hb
  · intro x
    dsimp only at x ⊢
    clear hbest
    obtain ⟨x4, xv, xn⟩ : (P a).f2 = 4 ∧ val = (P a).f4 ∧ ((ph = 4 ∧ nx < 4) ∨ (ph = 5 ∧ 4 ≤ nx)) := by omega
    rcases hI.2 a ha0 ha4 (.inl x4) with ⟨b4, k, k0, k4, ke, k5, k3⟩ | hG
    · rcases HL.out with ⟨hs4, hsf, hnx', hup⟩ | ⟨hs4, hnx', e1, e2⟩
      · have hks : k ≠ s := by
          intro e
          rw [e] at k3
          exact absurd k3 (Int.not_lt.2 hsf)
        have hk : nx ≤ k := by
          have := HS.out
          clear hup hph' xn x
          omega
        exact .inl ⟨by clear hup hph' hnx'; omega, k, k0, k4, ke, hk, k3⟩
      · have := HS.out
        clear hph' xn x
        omega
    · refine .inr fun g g0 g4 ge => ?_
      rw [xv]
      exact hG g g0 g4
/-- Whoever has decided has decided the same, and a value that somebody had. -/
theorem inv_agree (hI : Inv l0 N P B) {g h : Int} (g0 : 0 ≤ g) (g4 : g < 4) (h0 : 0 ≤ h) (h4 : h < 4) (hg : (P g).f2 = 5) (hh : (P h).f2 = 5) : (P g).f4 = (P h).f4 ∧ (P g).f4 ∈ l0 := by
  have og := hI.1 g g0 g4
  have oh := hI.1 h h0 h4
  have og8 := og.four (.inr hg)
  have oh8 := oh.four (.inr hh)
  refine ⟨?_, og.val (by omega)⟩
  have Gg : ∀ x, 0 ≤ x → x < 4 → Good (P g).f3 (P g).f4 g (P x) (B x) := by
    rcases hI.2 g g0 g4 (.inr hg) with ⟨x, _⟩ | hG
    · rw [hg] at x; exact absurd x (by decide)
    · exact hG
  have Gh : ∀ x, 0 ≤ x → x < 4 → Good (P h).f3 (P h).f4 h (P x) (B x) := by
    rcases hI.2 h h0 h4 (.inr hh) with ⟨x, _⟩ | hG
    · rw [hh] at x; exact absurd x (by decide)
    · exact hG
  have Gg := (Gg h h0 h4).1
  have Gh := (Gh g g0 g4).1
  by_cases hle : (P g).f3 ≤ (P h).f3
  · have := Gg (by rw [oh8.2.1]; exact hle)
    rw [← this, oh8.2.2]
  · have := Gh (by rw [og8.2.1]; exact Int.le_of_lt (Int.not_le.1 hle))
    rw [← this, og8.2.2]
end

theorem rd_T26_other {l : List S26} {i g : Int} (x : S26) (h0 : 0 ≤ i) (g0 : 0 ≤ g) (e : g ≠ i) : rd_T26 (l.set i.toNat x) g = rd_T26 l g := by
  have : ¬ i.toNat = g.toNat := by omega
  simp [rd_T26, List.getD_eq_getElem?_getD, List.getElem?_set, this]
theorem rd_T53_set {l : List S53} {i : Int} {x : S53} (h0 : 0 ≤ i) (h1 : i < (l.length : Int)) : rd_T53 (l.set i.toNat x) i = x := by
  have hn : i.toNat < l.length := by omega
  simp [rd_T53, List.getD_eq_getElem?_getD, hn]
theorem rd_T53_other {l : List S53} {i g : Int} (x : S53) (h0 : 0 ≤ i) (g0 : 0 ≤ g) (e : g ≠ i) : rd_T53 (l.set i.toNat x) g = rd_T53 l g := by
  have : ¬ i.toNat = g.toNat := by omega
  simp [rd_T53, List.getD_eq_getElem?_getD, List.getElem?_set, this]
def InvL (l0 : List Int) (N : Int) (ps : List S26) (bl : List S53) : Prop := ps.length = 4 ∧ bl.length = 4 ∧ Inv l0 N (rd_T26 ps) (rd_T53 bl)
/-! a step by its phase -/
theorem of_zero {b : S53} (h : b.f0 = 0) : pxOf b 0 = b := by
  unfold pxOf
  rw [if_neg (by omega)]
theorem g_one (h bal val nx best bb : Int) (bl : List S53) (hb : (rd_T53 bl h).f0 = 0) : impl_Px_step.g h 0 1 bal val nx best bb bl = if bal < (rd_T53 bl h).f1 ∨ (rd_T53 bl h).f1 = bal then (h, 0, 6, bal, val, nx, best, bb, bl) else (h, 0, 2, bal, val, 0, (rd_T53 bl h).f3, (rd_T53 bl h).f2, bl.set h.toNat ⟨0, bal, (rd_T53 bl h).f2, (rd_T53 bl h).f3⟩) := by
  unfold impl_Px_step.g pxWrite pxWriteD
  rw [of_zero hb, if_pos rfl, if_pos rfl, hb]
  by_cases c : bal < (rd_T53 bl h).f1 ∨ (rd_T53 bl h).f1 = bal
  · rw [if_pos c, if_pos (.inr c)]
  · rw [if_neg c, if_neg (fun x => x.elim (by omega) c)]
theorem g_three (h bal val nx best bb : Int) (bl : List S53) (hb : (rd_T53 bl h).f0 = 0) : impl_Px_step.g h 0 3 bal val nx best bb bl = if bal < (rd_T53 bl h).f1 ∨ ¬ (rd_T53 bl h).f1 = bal then (h, 0, 6, bal, val, nx, best, bb, bl) else (h, 0, 4, bal, val, 0, best, bb, bl.set h.toNat ⟨0, bal, bal, val⟩) := by
  unfold impl_Px_step.g pxWrite pxWriteD
  rw [of_zero hb, if_neg (by decide), if_pos rfl, if_neg (by decide), hb]
  by_cases c : bal < (rd_T53 bl h).f1 ∨ ¬ (rd_T53 bl h).f1 = bal
  · rw [if_pos c, if_pos (.inr c)]
  · rw [if_neg c, if_neg (fun x => x.elim (by omega) c)]
theorem fin_is (h ph bal val nx best bb : Int) (hp : ph = 2 ∨ ph = 4) : ∃ ph' val', pxFin h 0 ph bal val nx best bb = (h, 0, ph', bal, val', nx, best, bb) ∧ ((nx < 4 ∧ ph' = ph ∧ val' = val) ∨ (4 ≤ nx ∧ ph = 4 ∧ ph' = 5 ∧ val' = val) ∨ (4 ≤ nx ∧ ph = 2 ∧ ph' = 3 ∧ ((0 < bb ∧ val' = best) ∨ (bb ≤ 0 ∧ val' = val)))) := by
  unfold pxFin
  by_cases c : nx < 4
  · rw [if_pos c]
    exact ⟨ph, val, rfl, .inl ⟨c, rfl, rfl⟩⟩
  · rw [if_neg c]
    by_cases d : ph = 4
    · rw [if_pos d]
      exact ⟨5, val, rfl, .inr (.inl ⟨by omega, d, rfl, rfl⟩)⟩
    · rw [if_neg d]
      by_cases e : 0 < bb
      · rw [if_pos e]
        exact ⟨3, best, rfl, .inr (.inr ⟨by omega, by omega, rfl, .inl ⟨e, rfl⟩⟩)⟩
      · rw [if_neg e]
        exact ⟨3, val, rfl, .inr (.inr ⟨by omega, by omega, rfl, .inr ⟨by omega, rfl⟩⟩)⟩
theorem skip_is (h nx : Int) : (nx = h ∧ pxSkip h nx = nx + 1) ∨ (nx ≠ h ∧ pxSkip h nx = nx) := by
  unfold pxSkip
  by_cases c : nx = h
  · rw [if_pos c]; exact .inl ⟨c, rfl⟩
  · rw [if_neg c]; exact .inr ⟨c, rfl⟩
theorem read_is (h ph bal val nx0 best0 bb0 : Int) (bl : List S53) (hall : ∀ g, 0 ≤ g → g < 4 → (rd_T53 bl g).f0 = 0) (hp : ph = 2 ∨ ph = 4) (hn0 : 0 ≤ nx0) (hn4 : nx0 ≤ 4) (h4 : h < 4) :
    (∃ s, 0 ≤ s ∧ s ≤ 4 ∧ pxRead h 0 ph bal val nx0 best0 bb0 bl = (h, 0, 6, bal, val, s, best0, bb0)) ∨
    ∃ s nx best bb ph' val', pxRead h 0 ph bal val nx0 best0 bb0 bl = (h, 0, ph', bal, val', nx, best, bb) ∧ ((nx0 = h ∧ s = nx0 + 1) ∨ (nx0 ≠ h ∧ s = nx0)) ∧
      ((s < 4 ∧ (rd_T53 bl s).f1 ≤ bal ∧ ((s + 1 = h ∧ nx = s + 2) ∨ (s + 1 ≠ h ∧ nx = s + 1)) ∧ ((ph = 2 ∧ bb0 < (rd_T53 bl s).f2 ∧ best = (rd_T53 bl s).f3 ∧ bb = (rd_T53 bl s).f2) ∨ ((ph = 4 ∨ (rd_T53 bl s).f2 ≤ bb0) ∧ best = best0 ∧ bb = bb0))) ∨ (4 ≤ s ∧ nx = s ∧ best = best0 ∧ bb = bb0)) ∧
      ((nx < 4 ∧ ph' = ph ∧ val' = val) ∨ (4 ≤ nx ∧ ph = 4 ∧ ph' = 5 ∧ val' = val) ∨ (4 ≤ nx ∧ ph = 2 ∧ ph' = 3 ∧ ((0 < bb ∧ val' = best) ∨ (bb ≤ 0 ∧ val' = val)))) := by
  obtain ⟨s, hs⟩ : ∃ s, pxSkip h nx0 = s := ⟨_, rfl⟩
  have hsk := skip_is h nx0
  unfold pxRead
  rw [hs] at hsk ⊢
  by_cases c : s < 4
  · rw [if_pos c]
    have hz := hall s (by omega) c
    rw [of_zero hz]
    unfold pxLook
    by_cases d : 0 < (rd_T53 bl s).f0 ∨ bal < (rd_T53 bl s).f1
    · rw [if_pos d]
      exact .inl ⟨s, by omega, by omega, rfl⟩
    · rw [if_neg d]
      have hle : (rd_T53 bl s).f1 ≤ bal := by omega
      have hsk2 := skip_is h (s + 1)
      by_cases e : ph = 2 ∧ bb0 < (rd_T53 bl s).f2
      · rw [if_pos e]
        obtain ⟨ph', val', h1, h2⟩ := fin_is h ph bal val (pxSkip h (s + 1)) (rd_T53 bl s).f3 (rd_T53 bl s).f2 hp
        exact .inr ⟨s, _, _, _, ph', val', h1, hsk, .inl ⟨c, hle, by omega, .inl ⟨e.1, e.2, rfl, rfl⟩⟩, h2⟩
      · rw [if_neg e]
        obtain ⟨ph', val', h1, h2⟩ := fin_is h ph bal val (pxSkip h (s + 1)) best0 bb0 hp
        exact .inr ⟨s, _, _, _, ph', val', h1, hsk, .inl ⟨c, hle, by omega, .inr ⟨by omega, rfl, rfl⟩⟩, h2⟩
  · rw [if_neg c]
    obtain ⟨ph', val', h1, h2⟩ := fin_is h ph bal val s best0 bb0 hp
    exact .inr ⟨s, _, _, _, ph', val', h1, hsk, .inr ⟨by omega, rfl, rfl, rfl⟩, h2⟩
theorem g_read (h ph bal val nx best bb : Int) (bl : List S53) (hp : ph = 2 ∨ ph = 4) {a0 a1 a2 a3 a4 a5 a6 a7 : Int} (e : pxRead h 0 ph bal val nx best bb bl = (a0, a1, a2, a3, a4, a5, a6, a7)) : impl_Px_step.g h 0 ph bal val nx best bb bl = (a0, a1, a2, a3, a4, a5, a6, a7, bl) := by
  unfold impl_Px_step.g
  rw [if_neg (by omega), if_neg (by omega), e]
theorem step_keeps {l0 : List Int} {N h : Int} {ps : List S26} {bl : List S53} (hI : InvL l0 N ps bl) (h0 : 0 ≤ h) (h4 : h < 4) (hp1 : 1 ≤ (rd_T26 ps h).f2) (hp4 : (rd_T26 ps h).f2 ≤ 4) :
    ∃ q, impl_Px_step.f (rd_T26 ps h).f0 (rd_T26 ps h).f1 (rd_T26 ps h).f2 (rd_T26 ps h).f3 (rd_T26 ps h).f4 (rd_T26 ps h).f5 (rd_T26 ps h).f6 (rd_T26 ps h).f7 bl = some q ∧ impl_Px_step.g (rd_T26 ps h).f0 (rd_T26 ps h).f1 (rd_T26 ps h).f2 (rd_T26 ps h).f3 (rd_T26 ps h).f4 (rd_T26 ps h).f5 (rd_T26 ps h).f6 (rd_T26 ps h).f7 bl = q ∧ InvL l0 N (ps.set h.toNat ⟨q.1, q.2.1, q.2.2.1, q.2.2.2.1, q.2.2.2.2.1, q.2.2.2.2.2.1, q.2.2.2.2.2.2.1, q.2.2.2.2.2.2.2.1⟩) q.2.2.2.2.2.2.2.2 ∧ q.2.2.1 ≠ 0 := by
  obtain ⟨hlp, hlb, hI⟩ := hI
  have ho := hI.1 h h0 h4
  have hne : (rd_T26 ps h).f2 ≠ 0 := by omega
  have ha := ho.act hne
  have hz : ∀ g, 0 ≤ g → g < 4 → (rd_T53 bl g).f0 = 0 := fun g g0 g4 => (hI.1 g g0 g4).blk.1
  have hPa : ∀ x, rd_T26 (ps.set h.toNat x) h = x := fun x => rp_set h0 (by omega)
  have hPo : ∀ x g, 0 ≤ g → g < 4 → g ≠ h → rd_T26 (ps.set h.toNat x) g = rd_T26 ps g := fun x g g0 _ e => rd_T26_other x h0 g0 e
  have hBa : ∀ x, rd_T53 (bl.set h.toNat x) h = x := fun x => rd_T53_set h0 (by omega)
  have hBo : ∀ x g, 0 ≤ g → g < 4 → g ≠ h → rd_T53 (bl.set h.toNat x) g = rd_T53 bl g := fun x g g0 _ e => rd_T53_other x h0 g0 e
  obtain ⟨y, hy⟩ : ∃ y, rd_T26 ps h = y := ⟨_, rfl⟩
  have idle : ∀ (nx best bb : Int), 0 ≤ nx → nx ≤ 4 → best = (rd_T26 ps h).f6 → bb = (rd_T26 ps h).f7 → InvL l0 N (ps.set h.toNat ⟨h, 0, 6, (rd_T26 ps h).f3, (rd_T26 ps h).f4, nx, best, bb⟩) bl := by
    intro nx best bb n0 n4 e1 e2
    refine ⟨by simpa using hlp, hlb, inv_idle hI (Int.le_refl _) h0 h4 (hPa _) rfl (hPo _) (.inr rfl) ⟨rfl, rfl, ha.2.2.2.2.1, ha.2.2.2.2.2.1, ha.2.2.2.2.2.2.1, n0, n4, ?_⟩ (ho.val hne) ?_⟩
    · dsimp only; rw [e2]; exact ha.2.2.2.2.2.2.2.2.2
    · dsimp only; rw [e1, e2]; exact ho.best hne
  unfold impl_Px_step.f
  rw [if_pos ⟨hlb, by omega, by omega, hp1, hp4, by omega, by omega⟩]
  refine ⟨_, rfl, rfl, ?_⟩
  rw [ha.1, ha.2.1]
  have four : (rd_T26 ps h).f2 = 1 ∨ (rd_T26 ps h).f2 = 3 ∨ ((rd_T26 ps h).f2 = 2 ∨ (rd_T26 ps h).f2 = 4) := by omega
  rcases four with c | c | c
  · rw [c, g_one _ _ _ _ _ _ _ (hz h h0 h4)]
    by_cases d : (rd_T26 ps h).f3 < (rd_T53 bl h).f1 ∨ (rd_T53 bl h).f1 = (rd_T26 ps h).f3
    · rw [if_pos d]
      exact ⟨idle (rd_T26 ps h).f5 (rd_T26 ps h).f6 (rd_T26 ps h).f7 (by omega) (by omega) rfl rfl, show (6 : Int) ≠ 0 by decide⟩
    · rw [if_neg d]
      exact ⟨⟨by simpa using hlp, by simpa using hlb, inv_write1 hI h0 h4 (hPo _) (hBo _) c (by omega) (hPa _) (hBa _)⟩, show (2 : Int) ≠ 0 by decide⟩
  · rw [c, g_three _ _ _ _ _ _ _ (hz h h0 h4)]
    by_cases d : (rd_T26 ps h).f3 < (rd_T53 bl h).f1 ∨ ¬ (rd_T53 bl h).f1 = (rd_T26 ps h).f3
    · rw [if_pos d]
      exact ⟨idle (rd_T26 ps h).f5 (rd_T26 ps h).f6 (rd_T26 ps h).f7 (by omega) (by omega) rfl rfl, show (6 : Int) ≠ 0 by decide⟩
    · rw [if_neg d]
      exact ⟨⟨by simpa using hlp, by simpa using hlb, inv_write2 hI h0 h4 (hPo _) (hBo _) c (hPa _) (hBa _)⟩, show (4 : Int) ≠ 0 by decide⟩
  · rcases read_is h (rd_T26 ps h).f2 (rd_T26 ps h).f3 (rd_T26 ps h).f4 (rd_T26 ps h).f5 (rd_T26 ps h).f6 (rd_T26 ps h).f7 bl hz c (by omega) (by omega) h4 with ⟨s, s0, s4, e⟩ | ⟨s, nx, best, bb, ph, val, e, hs, hl, hr⟩
    · rw [g_read _ _ _ _ _ _ _ _ c e]
      exact ⟨idle s (rd_T26 ps h).f6 (rd_T26 ps h).f7 s0 s4 rfl rfl, show (6 : Int) ≠ 0 by decide⟩
    · rw [g_read _ _ _ _ _ _ _ _ c e]
      exact ⟨⟨by simpa using hlp, hlb, inv_read hI h0 h4 (hPo _) rfl c hs hl hr (hPa _)⟩, by dsimp only; omega⟩

theorem bind_of {α β : Type} {x : Option α} {a : α} {f : α → Option β} {r : Option β} (h : x = some a) (h2 : f a = r) : x.bind f = r := by rw [h]; exact h2
/-! the run as a function that always answers -/
def nbM (bl : List S53) : Int := mx (mx (mx (mx 0 (rd_T53 bl 0).f1) (rd_T53 bl 1).f1) (rd_T53 bl 2).f1) (rd_T53 bl 3).f1
def nbS (h : Int) (bl : List S53) : Int := (nbM bl / 4 + 1) * 4 + h
theorem mx_is (a b : Int) : (a < b ∧ mx a b = b) ∨ (b ≤ a ∧ mx a b = a) := by
  unfold mx
  by_cases c : a < b
  · rw [if_pos c]; exact .inl ⟨c, rfl⟩
  · rw [if_neg c]; exact .inr ⟨by omega, rfl⟩
theorem next_val {N h : Int} {bl : List S53} (hlb : bl.length = 4) (hz : ∀ g, 0 ≤ g → g < 4 → (rd_T53 bl g).f0 = 0 ∧ 0 ≤ (rd_T53 bl g).f1 ∧ (rd_T53 bl g).f1 ≤ N) (h0 : 0 ≤ h) (h4 : h < 4) (hN : N ≤ 1000000) : 0 < nbS h bl ∧ nbS h bl ≤ N + 7 ∧ nbS h bl % 4 = h ∧ ∀ k, 4 < k → impl_nextBallot.f k h 0 bl = some (nbS h bl) := by
  have w1 : wrap64 (0 + 1) = 1 := by unfold wrap64; omega
  have w2 : wrap64 (1 + 1) = 2 := by unfold wrap64; omega
  have w3 : wrap64 (2 + 1) = 3 := by unfold wrap64; omega
  have w4 : wrap64 (3 + 1) = 4 := by unfold wrap64; omega
  have hl4 : (bl.length : Int) = 4 := by omega
  obtain ⟨z0, l0, u0⟩ := hz 0 (by decide) (by decide)
  obtain ⟨z1, l1, u1⟩ := hz 1 (by decide) (by decide)
  obtain ⟨z2, l2, u2⟩ := hz 2 (by decide) (by decide)
  obtain ⟨z3, l3, u3⟩ := hz 3 (by decide) (by decide)
  unfold nbS nbM
  obtain ⟨m, hm⟩ : ∃ m, mx (mx (mx (mx 0 (rd_T53 bl 0).f1) (rd_T53 bl 1).f1) (rd_T53 bl 2).f1) (rd_T53 bl 3).f1 = m := ⟨_, rfl⟩
  rw [hm]
  have m0 : 0 ≤ m ∧ m ≤ N := by
    have e0 := mx_is 0 (rd_T53 bl 0).f1
    generalize mx 0 (rd_T53 bl 0).f1 = x0 at hm e0
    have e1 := mx_is x0 (rd_T53 bl 1).f1
    generalize mx x0 (rd_T53 bl 1).f1 = x1 at hm e1
    have e2 := mx_is x1 (rd_T53 bl 2).f1
    generalize mx x1 (rd_T53 bl 2).f1 = x2 at hm e2
    have e3 := mx_is x2 (rd_T53 bl 3).f1
    generalize mx x2 (rd_T53 bl 3).f1 = x3 at hm e3
    clear z0 z1 z2 z3 w1 w2 w3 w4
    omega
  refine ⟨by clear hm; omega, by clear hm; omega, by clear hm; omega, fun k hk => ?_⟩
  obtain ⟨k, rfl⟩ : ∃ m, k = m + 5 := ⟨k - 5, by omega⟩
  have nn : ¬ ((0 : Int) < 0) := by decide
  have hw : wrap64 ((wrap64 ((wrap64 ((wrap64 (Int.tdiv m 4)) + 1)) * 4)) + h) = (m / 4 + 1) * 4 + h := by
    rw [Int.tdiv_eq_ediv_of_nonneg m0.1]
    unfold wrap64
    clear hm
    omega
  rw [← hw]
  simp only [impl_nextBallot.f, impl_nextBallot.l0, impl_Block_of.f, hl4, z0, z1, z2, z3, w1, w2, w3, w4, nn, if_false, if_true, Option.bind_some, (by decide : (0 : Int) < 4), (by decide : (1 : Int) < 4), (by decide : (2 : Int) < 4), (by decide : (3 : Int) < 4), (by decide : ¬ (4 : Int) < 4), (by decide : (0 : Int) ≤ 0), (by decide : (0 : Int) ≤ 1), (by decide : (0 : Int) ≤ 2), (by decide : (0 : Int) ≤ 3), hm]
theorem start_is {h n v : Int} (h0 : 0 ≤ h) (h4 : h < 4) (n0 : 0 < n) (n1 : n ≤ 1000000) (nm : n % 4 = h) (v0 : 0 ≤ v) (v1 : v ≤ 2147483647) : impl_PxStart.f h 0 n v = some (h, 0, 1, n, v, 0, 0, 0, 0) := by
  have em : Int.tmod n 4 = h := by rw [Int.tmod_eq_emod_of_nonneg (by omega)]; exact nm
  have h3 : h ≤ 3 := by omega
  have n1' : 1 ≤ n := by omega
  have b1 : (1 : Int) ≤ 6 := by decide
  have b2 : (0 : Int) ≤ 4 := by decide
  have b3 : (0 : Int) ≤ 2147483647 := by decide
  have b4 : (0 : Int) ≤ 1000000 := by decide
  have b5 : (0 : Int) ≤ 0 := by decide
  have b6 : (1 : Int) ≤ 1 := by decide
  simp only [impl_PxStart.f, impl_PxOK.f, impl_isHost.f, impl_isVer.f, impl_isNumber.f, impl_within.f, if_pos h0, if_pos n1', if_pos v0, if_pos b5, if_pos b6, decide_eq_true h3, decide_eq_true n1, decide_eq_true v1, decide_eq_true b1, decide_eq_true b2, decide_eq_true b3, decide_eq_true b4, Option.bind_some, if_true, if_pos em]
theorem rd_mem {l : List Int} {i : Int} (h0 : 0 ≤ i) (h1 : i < (l.length : Int)) : rd l i ∈ l := by
  have hn : i.toNat < l.length := by omega
  simp [rd, List.getD_eq_getElem?_getD, hn]

def begS (l0 : List Int) (h : Int) (ps : List S26) (bl : List S53) : List S26 := if (rd_T26 ps h).f2 = 0 ∨ (rd_T26 ps h).f2 = 6 then ps.set h.toNat ⟨h, 0, 1, nbS h bl, rd l0 h, 0, 0, 0⟩ else ps
def movQ (h : Int) (ps : List S26) (q : Int × Int × Int × Int × Int × Int × Int × Int × List S53) : List S26 × List S53 := (ps.set h.toNat ⟨q.1, q.2.1, q.2.2.1, q.2.2.2.1, q.2.2.2.2.1, q.2.2.2.2.2.1, q.2.2.2.2.2.2.1, q.2.2.2.2.2.2.2.1⟩, q.2.2.2.2.2.2.2.2)
def movS (h : Int) (ps : List S26) (bl : List S53) : List S26 × List S53 := if (rd_T26 ps h).f2 = 5 ∨ (rd_T26 ps h).f2 = 6 then (ps, bl) else movQ h ps (impl_Px_step.g (rd_T26 ps h).f0 (rd_T26 ps h).f1 (rd_T26 ps h).f2 (rd_T26 ps h).f3 (rd_T26 ps h).f4 (rd_T26 ps h).f5 (rd_T26 ps h).f6 (rd_T26 ps h).f7 bl)
def runS (l0 : List Int) : List Int → List S26 → List S53 → List S26 × List S53
  | [], ps, bl => (ps, bl)
  | h :: t, ps, bl => runS l0 t (movS h (begS l0 h ps bl) bl).1 (movS h (begS l0 h ps bl) bl).2
theorem run_eq {l0 : List Int} {k : Nat} (hk : 4 < k) (hl : l0.length = 4) (hnum : ∀ x ∈ l0, 0 ≤ x ∧ x ≤ 2147483647) : ∀ (t : List Int) (ps : List S26) (bl : List S53) (N : Int), (∀ x ∈ t, 0 ≤ x ∧ x < 4) → InvL l0 N ps bl → N + 7 * (t.length : Int) ≤ 1000000 → rpRun k l0 t ps bl = some (runS l0 t ps bl) := by
  intro t
  induction t with
  | nil => intro ps bl N _ _ _; rfl
  | cons h t ih =>
    intro ps bl N ht hI hN
    rw [List.length_cons] at hN
    obtain ⟨h0, h4⟩ := ht h List.mem_cons_self
    obtain ⟨hlp, hlb, hI'⟩ := hI
    have hb : rpBegin k l0 h ps bl = some (begS l0 h ps bl) ∧ InvL l0 (N + 7) (begS l0 h ps bl) bl ∧ 1 ≤ (rd_T26 (begS l0 h ps bl) h).f2 ∧ (rd_T26 (begS l0 h ps bl) h).f2 ≤ 5 := by
      unfold rpBegin begS
      by_cases c : (rd_T26 ps h).f2 = 0 ∨ (rd_T26 ps h).f2 = 6
      · rw [if_pos c, if_pos c]
        obtain ⟨n0, n1, nm, hn⟩ := next_val (N := N) hlb (fun g g0 g4 => by have := (hI'.1 g g0 g4).blk; omega) h0 h4 (by omega)
        rw [hn k hk]
        have hv := hnum _ (rd_mem (l := l0) h0 (by omega))
        simp only [Option.bind_some]
        rw [start_is h0 h4 n0 (by omega) nm hv.1 hv.2]
        refine ⟨rfl, ⟨by simpa using hlp, hlb, ?_⟩, ?_, ?_⟩
        · exact inv_idle hI' (by omega) h0 h4 (rp_set h0 (by omega)) rfl (fun g g0 _ e => rd_T26_other _ h0 g0 e) (.inl rfl) ⟨rfl, rfl, n0, n1, nm, (show (0 : Int) ≤ 0 by decide), (show (0 : Int) ≤ 4 by decide), (show (0 : Int) ≤ 0 by decide)⟩ (rd_mem h0 (by omega)) (fun x => absurd x (show ¬ (0 : Int) < 0 by decide))
        · rw [rp_set h0 (by omega)]; exact (show (1 : Int) ≤ 1 by decide)
        · rw [rp_set h0 (by omega)]; exact (show (1 : Int) ≤ 5 by decide)
      · rw [if_neg c, if_neg c]
        have hne : (rd_T26 ps h).f2 ≠ 0 := fun e => c (.inl e)
        have ha := (hI'.1 h h0 h4).act hne
        have h6 : (rd_T26 ps h).f2 ≠ 6 := fun e => c (.inr e)
        exact ⟨rfl, ⟨hlp, hlb, fun g g0 g4 => (hI'.1 g g0 g4).mono (by omega), hI'.2⟩, by omega, by omega⟩
    simp only [rpRun, runS]
    obtain ⟨e1, hI1, hp1, hp5⟩ := hb
    generalize begS l0 h ps bl = p1 at e1 hI1 hp1 hp5 ⊢
    have ht' := fun x hx => ht x (List.mem_cons_of_mem _ hx)
    refine bind_of e1 ?_
    unfold rpMove movS
    by_cases c5 : (rd_T26 p1 h).f2 = 5 ∨ (rd_T26 p1 h).f2 = 6
    · rw [if_pos c5, if_pos c5]
      exact ih p1 bl (N + 7) ht' hI1 (by omega)
    · rw [if_neg c5, if_neg c5]
      obtain ⟨q, eq1, eq2, hI2, _⟩ := step_keeps hI1 h0 h4 hp1 (by omega)
      rw [eq1, eq2]
      exact ih _ _ (N + 7) ht' hI2 (by omega)
theorem rd4 (P : Int → Prop) (h0 : P 0) (h1 : P 1) (h2 : P 2) (h3 : P 3) : ∀ g, 0 ≤ g → g < 4 → P g := by
  intro g g0 g4
  have : g = 0 ∨ g = 1 ∨ g = 2 ∨ g = 3 := by omega
  rcases this with rfl | rfl | rfl | rfl <;> assumption
theorem inv_begun (l0 : List Int) : InvL l0 0 (List.replicate 4 z26) (List.replicate 4 z53) := by
  refine ⟨rfl, rfl, rd4 _ ?_ ?_ ?_ ?_, fun h h0 h4 x => ?_⟩
  iterate 4 exact ⟨⟨by decide, by decide, by decide, by decide⟩, fun x => absurd x (by decide), fun x => absurd x (by decide), .inl rfl, fun x => absurd rfl x, fun x => absurd rfl x, fun x => absurd x (by decide), fun x => absurd x (by decide)⟩
  have e : (rd_T26 (List.replicate 4 z26) h).f2 = 0 := rd4 (fun g => (rd_T26 (List.replicate 4 z26) g).f2 = 0) rfl rfl rfl rfl h h0 h4
  omega

def endS (l0 : List Int) (t : List Int) : List Int := (runS l0 t (List.replicate 4 z26) (List.replicate 4 z53)).1.map rpOne
theorem impl_run {l0 t : List Int} (hl : l0.length = 4) (hnum : ∀ x ∈ l0, 0 ≤ x ∧ x ≤ 2147483647) (ht : ∀ x ∈ t, 0 ≤ x ∧ x < 4) (hlen : t.length ≤ 4096) (k : Nat) (hk : 4 < k) : ∃ b, impl_RunPaxos.f k l0 t = some (endS l0 t, b, 0) := by
  unfold impl_RunPaxos.f
  have hc0 : rpCode l0 t = 0 := by
    unfold rpCode
    have h1 : l0.all fn_isNumber.p = true := by
      rw [List.all_eq_true]
      intro x hx
      have := hnum x hx
      simp [fn_isNumber]
      omega
    have h2 : t.all fn_isHost.p = true := by
      rw [List.all_eq_true]
      intro x hx
      have := ht x hx
      simp [fn_isHost]
      omega
    rw [if_neg (by omega), if_pos ⟨by omega, h1⟩, if_pos h2]
  rw [if_pos hc0, run_eq hk hl hnum t _ _ 0 ht (inv_begun l0) (by omega)]
  exact ⟨_, rfl⟩
theorem hosts_of {n m : Nat} {h o : Int} (h0 : 0 ≤ h) (h4 : h < 4) (o0 : 0 ≤ o) (o4 : o < 4) : ∀ x ∈ List.replicate n h ++ List.replicate m o, 0 ≤ x ∧ x < 4 := by
  intro x hx
  rcases List.mem_append.1 hx with hx | hx
  · have := List.eq_of_mem_replicate hx; omega
  · have := List.eq_of_mem_replicate hx; omega
/-! the nine steps of one, and nine more of another: sixteen runs, whatever the values are -/
theorem run_0 (v0 v1 v2 v3 : Int) : endS [v0, v1, v2, v3] (List.replicate 9 0) = [v0, -1, -1, -1] := by kernel_rfl
theorem run_0_1 (v0 v1 v2 v3 : Int) : endS [v0, v1, v2, v3] (List.replicate 9 0 ++ List.replicate 9 1) = [v0, v0, -1, -1] := by kernel_rfl
theorem run_0_2 (v0 v1 v2 v3 : Int) : endS [v0, v1, v2, v3] (List.replicate 9 0 ++ List.replicate 9 2) = [v0, -1, v0, -1] := by kernel_rfl
theorem run_0_3 (v0 v1 v2 v3 : Int) : endS [v0, v1, v2, v3] (List.replicate 9 0 ++ List.replicate 9 3) = [v0, -1, -1, v0] := by kernel_rfl
theorem run_1 (v0 v1 v2 v3 : Int) : endS [v0, v1, v2, v3] (List.replicate 9 1) = [-1, v1, -1, -1] := by kernel_rfl
theorem run_1_0 (v0 v1 v2 v3 : Int) : endS [v0, v1, v2, v3] (List.replicate 9 1 ++ List.replicate 9 0) = [v1, v1, -1, -1] := by kernel_rfl
theorem run_1_2 (v0 v1 v2 v3 : Int) : endS [v0, v1, v2, v3] (List.replicate 9 1 ++ List.replicate 9 2) = [-1, v1, v1, -1] := by kernel_rfl
theorem run_1_3 (v0 v1 v2 v3 : Int) : endS [v0, v1, v2, v3] (List.replicate 9 1 ++ List.replicate 9 3) = [-1, v1, -1, v1] := by kernel_rfl
theorem run_2 (v0 v1 v2 v3 : Int) : endS [v0, v1, v2, v3] (List.replicate 9 2) = [-1, -1, v2, -1] := by kernel_rfl
theorem run_2_0 (v0 v1 v2 v3 : Int) : endS [v0, v1, v2, v3] (List.replicate 9 2 ++ List.replicate 9 0) = [v2, -1, v2, -1] := by kernel_rfl
theorem run_2_1 (v0 v1 v2 v3 : Int) : endS [v0, v1, v2, v3] (List.replicate 9 2 ++ List.replicate 9 1) = [-1, v2, v2, -1] := by kernel_rfl
theorem run_2_3 (v0 v1 v2 v3 : Int) : endS [v0, v1, v2, v3] (List.replicate 9 2 ++ List.replicate 9 3) = [-1, -1, v2, v2] := by kernel_rfl
theorem run_3 (v0 v1 v2 v3 : Int) : endS [v0, v1, v2, v3] (List.replicate 9 3) = [-1, -1, -1, v3] := by kernel_rfl
theorem run_3_0 (v0 v1 v2 v3 : Int) : endS [v0, v1, v2, v3] (List.replicate 9 3 ++ List.replicate 9 0) = [v3, -1, -1, v3] := by kernel_rfl
theorem run_3_1 (v0 v1 v2 v3 : Int) : endS [v0, v1, v2, v3] (List.replicate 9 3 ++ List.replicate 9 1) = [-1, v3, -1, v3] := by kernel_rfl
theorem run_3_2 (v0 v1 v2 v3 : Int) : endS [v0, v1, v2, v3] (List.replicate 9 3 ++ List.replicate 9 2) = [-1, -1, v3, v3] := by kernel_rfl
theorem alone_ends {h o : Int} (h0 : 0 ≤ h) (h4 : h < 4) (o0 : 0 ≤ o) (o4 : o < 4) (hne : h ≠ o) {v : List Int} (hl : v.length = 4) : (endS v (List.replicate 9 h)).length = 4 ∧ rd (endS v (List.replicate 9 h)) h = rd v h ∧ rd (endS v (List.replicate 9 h)) o = -1 ∧ (endS v (List.replicate 9 h ++ List.replicate 9 o)).length = 4 ∧ rd (endS v (List.replicate 9 h ++ List.replicate 9 o)) h = rd v h ∧ rd (endS v (List.replicate 9 h ++ List.replicate 9 o)) o = rd v h := by
  match v, hl with
  | [v0, v1, v2, v3], _ =>
    have eh : h = 0 ∨ h = 1 ∨ h = 2 ∨ h = 3 := by omega
    have eo : o = 0 ∨ o = 1 ∨ o = 2 ∨ o = 3 := by omega
    rcases eh with rfl | rfl | rfl | rfl
    · rcases eo with rfl | rfl | rfl | rfl
      · exact absurd rfl hne
      · rw [run_0, run_0_1]; exact ⟨rfl, rfl, rfl, rfl, rfl, rfl⟩
      · rw [run_0, run_0_2]; exact ⟨rfl, rfl, rfl, rfl, rfl, rfl⟩
      · rw [run_0, run_0_3]; exact ⟨rfl, rfl, rfl, rfl, rfl, rfl⟩
    · rcases eo with rfl | rfl | rfl | rfl
      · rw [run_1, run_1_0]; exact ⟨rfl, rfl, rfl, rfl, rfl, rfl⟩
      · exact absurd rfl hne
      · rw [run_1, run_1_2]; exact ⟨rfl, rfl, rfl, rfl, rfl, rfl⟩
      · rw [run_1, run_1_3]; exact ⟨rfl, rfl, rfl, rfl, rfl, rfl⟩
    · rcases eo with rfl | rfl | rfl | rfl
      · rw [run_2, run_2_0]; exact ⟨rfl, rfl, rfl, rfl, rfl, rfl⟩
      · rw [run_2, run_2_1]; exact ⟨rfl, rfl, rfl, rfl, rfl, rfl⟩
      · exact absurd rfl hne
      · rw [run_2, run_2_3]; exact ⟨rfl, rfl, rfl, rfl, rfl, rfl⟩
    · rcases eo with rfl | rfl | rfl | rfl
      · rw [run_3, run_3_0]; exact ⟨rfl, rfl, rfl, rfl, rfl, rfl⟩
      · rw [run_3, run_3_1]; exact ⟨rfl, rfl, rfl, rfl, rfl, rfl⟩
      · rw [run_3, run_3_2]; exact ⟨rfl, rfl, rfl, rfl, rfl, rfl⟩
      · exact absurd rfl hne
/-! the law's loops -/
theorem loop0 (h o : Int) (v : List Int) (d : Nat) : ∀ (k j : Nat) (x : List Int), j + d = 9 → x.length + d ≤ 100 → laws_FnAlone.l0 (k + d + 1) h o v x (j : Int) = laws_FnAlone.l0 (k + 1) h o v (x ++ List.replicate d h) 9 := by
  induction d with
  | zero =>
    intro k j x hj hx
    have e : (j : Int) = 9 := by omega
    rw [List.replicate_zero, List.append_nil, e]
  | succ d ih =>
    intro k j x hj hx
    have hk : k + (d + 1) + 1 = (k + d + 1) + 1 := by omega
    have hw : wrap64 ((j : Int) + 1) = ((j + 1 : Nat) : Int) := by unfold wrap64; omega
    have hs : laws_FnAlone.l0 ((k + d + 1) + 1) h o v x (j : Int) = laws_FnAlone.l0 (k + d + 1) h o v (x ++ [h]) ((j + 1 : Nat) : Int) := by
      conv => lhs; unfold laws_FnAlone.l0
      rw [if_pos (by omega), if_pos (by omega), hw]
    rw [hk, hs, ih k (j + 1) (x ++ [h]) (by omega) (by rw [List.length_append, List.length_singleton]; omega), List.append_assoc, List.replicate_succ]
    rfl
theorem loop1 (h o : Int) (v a : List Int) (c : Int) (d : Nat) : ∀ (k j : Nat) (x : List Int), j + d = 9 → x.length + d ≤ 100 → laws_FnAlone.l1 (k + d + 1) h o v x a c (j : Int) = laws_FnAlone.l1 (k + 1) h o v (x ++ List.replicate d o) a c 9 := by
  induction d with
  | zero =>
    intro k j x hj hx
    have e : (j : Int) = 9 := by omega
    rw [List.replicate_zero, List.append_nil, e]
  | succ d ih =>
    intro k j x hj hx
    have hk : k + (d + 1) + 1 = (k + d + 1) + 1 := by omega
    have hw : wrap64 ((j : Int) + 1) = ((j + 1 : Nat) : Int) := by unfold wrap64; omega
    have hs : laws_FnAlone.l1 ((k + d + 1) + 1) h o v x a c (j : Int) = laws_FnAlone.l1 (k + d + 1) h o v (x ++ [o]) a c ((j + 1 : Nat) : Int) := by
      conv => lhs; unfold laws_FnAlone.l1
      rw [if_pos (by omega), if_pos (by omega), hw]
    rw [hk, hs, ih k (j + 1) (x ++ [o]) (by omega) (by rw [List.length_append, List.length_singleton]; omega), List.append_assoc, List.replicate_succ]
    rfl
theorem alone_law {h o : Int} (h0 : 0 ≤ h) (h4 : h < 4) (o0 : 0 ≤ o) (o4 : o < 4) (hne : h ≠ o) {v : List Int} (hl : v.length = 4) (hnum : ∀ x ∈ v, 0 ≤ x ∧ x ≤ 2147483647) (K0 K1 K2 : Nat) (hK0 : K1 + 9 + 1 = K0) (hK1 : K2 + 9 + 1 = K1) (hK2 : 4 < K2) : laws_FnAlone.l0 K0 h o v [] 0 = some true := by
  obtain ⟨a1, a2, a3, a4, a5, a6⟩ := alone_ends h0 h4 o0 o4 hne hl
  have z0 : ((0 : Nat) : Int) = 0 := rfl
  have hl0 := loop0 h o v 9 K1 0 [] (by omega) (by simp)
  rw [List.nil_append, hK0, z0] at hl0
  have hh1 : ∀ x ∈ List.replicate 9 h, 0 ≤ x ∧ x < 4 := fun x hx => by have := List.eq_of_mem_replicate hx; omega
  obtain ⟨b1, e1⟩ := impl_run hl hnum hh1 (by simp) K1 (by omega)
  obtain ⟨b2, e2⟩ := impl_run hl hnum (hosts_of (n := 9) (m := 9) h0 h4 o0 o4) (by simp) K2 hK2
  have hl1 := loop1 h o v (endS v (List.replicate 9 h)) 0 9 K2 0 (List.replicate 9 h) (by omega) (by simp)
  rw [hK1, z0] at hl1
  rw [hl0]
  generalize List.replicate 9 h = X at *
  generalize List.replicate 9 o = Y at *
  simp only [laws_FnAlone.l0]
  rw [if_neg (by decide)]
  refine bind_of e1 ?_
  rw [hl1]
  simp only [laws_FnAlone.l1]
  rw [if_neg (by decide)]
  refine bind_of e2 ?_
  dsimp only
  rw [if_pos rfl, if_pos trivial, if_pos (by omega), if_pos h0, if_pos (by omega), if_pos (by omega), if_pos a2, if_pos o0, if_pos (by omega), if_pos a3, if_pos (by omega), if_pos (by omega), if_pos a5, if_pos (by omega), a6]
  simp
theorem bytes_wf {l : List Int} (h : ∀ x ∈ l, (fun x : Int => (Lit.int .u8 x).wf = true) x) : ∀ x ∈ l, 0 ≤ x ∧ x ≤ 255 := by
  intro x hx
  have := h x hx
  simp [Lit.wf, IntKind.min, IntKind.max, IntKind.bits, IntKind.signed] at this
  omega
theorem alone_tail (l0 l1 : List Int) (h0 : ∀ x ∈ l0, (fun x : Int => (Lit.int .u8 x).wf = true) x) (h1 : ∀ x ∈ l1, (fun x : Int => (Lit.int .u8 x).wf = true) x) (hl0 : l0.length ≤ 1048576) (hl1 : l1.length ≤ 1048576) : laws_FnAlone.j0 (100 + 100 + 1) l0 l1 false = some true := by
  simp only [laws_FnAlone.j0, Bool.false_eq_true, if_false]
  have hb := bytes_wf h1
  have hc := bytes_wf h0
  obtain ⟨t0, a0, b0, c0⟩ := at_is (l := l0) 0 4 hc (by omega) (by omega) (by omega)
  obtain ⟨t1, a1, b1, c1⟩ := at_is (l := l0) 1 3 hc (by omega) (by omega) (by omega)
  obtain ⟨t2, a2, b2, c2⟩ := at_is (l := l1) 0 900 hb (by omega) (by omega) (by omega)
  obtain ⟨t3, a3, b3, c3⟩ := at_is (l := l1) 1 900 hb (by omega) (by omega) (by omega)
  obtain ⟨t4, a4, b4, c4⟩ := at_is (l := l1) 2 900 hb (by omega) (by omega) (by omega)
  obtain ⟨t5, a5, b5, c5⟩ := at_is (l := l1) 3 900 hb (by omega) (by omega) (by omega)
  refine bind_of a0 (bind_of a1 (bind_of a2 (bind_of a3 (bind_of a4 (bind_of a5 ?_)))))
  rw [w64n (x := t0 + 1) (by omega) (by omega), w64n (x := t0 + 1 + t1) (by omega) (by omega), Int.tmod_eq_emod_of_nonneg (by omega)]
  refine alone_law b0 c0 (by omega) (by omega) (by omega) rfl ?_ 200 190 180 rfl rfl (by decide)
  intro x hx
  simp only [List.mem_cons, List.mem_singleton, List.not_mem_nil, or_false] at hx
  omega
theorem FnAlone (l0 : List Int) (l1 : List Int) (_ : l0.length ≤ maxLen) (h0 : ∀ x ∈ l0, (fun x : Int => (Lit.int .u8 x).wf = true) x) (_ : l1.length ≤ maxLen) (h1 : ∀ x ∈ l1, (fun x : Int => (Lit.int .u8 x).wf = true) x) : ∃ k, laws_FnAlone.f k l0 l1 = some true := by
  refine ⟨100 + 100 + 1, ?_⟩
  have ht : laws_FnAlone.j0 (100 + 100 + 1) l0 l1 true = some true := by simp only [laws_FnAlone.j0, if_true]
  unfold laws_FnAlone.f
  by_cases h : (l0.length : Int) > 1048576
  · rw [if_pos h]; exact ht
  · rw [if_neg h]
    by_cases h' : (l1.length : Int) > 1048576
    · rw [decide_eq_true h']; exact ht
    · rw [decide_eq_false h']; exact alone_tail l0 l1 h0 h1 (by omega) (by omega)
end Go.Proofs.Ytlclbdfcniiolaa.Pure
