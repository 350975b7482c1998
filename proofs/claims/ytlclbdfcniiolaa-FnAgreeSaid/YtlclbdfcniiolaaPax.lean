/- The theorem of ballots, in plain Lean: what every step of a run keeps; the program's run and the reference's, as plain functions, come to the same, whatever they are handed. -/
import Derived.Test.YtlclbdfcniiolaaQ3
import Derived.Test.YtlclbdfcniiolaaQ2
import Derived.Test.YtlclbdfcniiolaaRd
import Derived.Test.YtlclbdfcniiolaaHandRp
set_option linter.unusedSimpArgs false
set_option linter.unusedVariables false
namespace Go.Proofs.Ytlclbdfcniiolaa.Pure
open Go.RowKit Go.Proofs.Ytlclbdfcniiolaa.Q Go.Proofs.Ytlclbdfcniiolaa.Hand Go.Proofs.YtlclbdfcniiolaaW.PrintWords Go.Proofs.YtlclbdfcniiolaaW.PrintLast Go.Proofs.YtlclbdfcniiolaaW.PrintMore

/-! what is kept: of one host (its ballot p, its block b), of two (a host h that may have decided v at ballot n; another's p, b), of all -/
def Own (l0 : List Int) (N g : Int) (p : S26) (b : S53) : Prop :=
  (b.f0 = 0 ∧ 0 ≤ b.f2 ∧ b.f2 ≤ b.f1 ∧ b.f1 ≤ N) ∧ (0 < b.f2 → b.f2 % 4 = g) ∧ (0 < b.f2 → b.f3 ∈ l0) ∧
  (p.f2 = 0 ∨ (p.f0 = g ∧ p.f1 = 0 ∧ 1 ≤ p.f2 ∧ p.f2 ≤ 6 ∧ 0 < p.f3 ∧ p.f3 ≤ N ∧ p.f3 % 4 = g ∧ 0 ≤ p.f5 ∧ p.f5 ≤ 4 ∧ 0 ≤ p.f7)) ∧ (p.f2 ≠ 0 → p.f4 ∈ l0) ∧ (p.f2 ≠ 0 → 0 < p.f7 → p.f6 ∈ l0) ∧
  ((p.f2 = 2 ∨ p.f2 = 3) → b.f1 = p.f3) ∧ ((p.f2 = 4 ∨ p.f2 = 5) → b.f1 = p.f3 ∧ b.f2 = p.f3 ∧ b.f3 = p.f4)
def Good (n v h : Int) (p : S26) (b : S53) : Prop :=
  (n ≤ b.f2 → b.f3 = v) ∧ (p.f2 = 2 → n < p.f3 → n ≤ p.f7 → p.f6 = v) ∧ (p.f2 = 2 → n < p.f3 → h < p.f5 → n ≤ p.f7) ∧ (p.f2 = 3 → n < p.f3 → p.f4 = v)
def Inv (l0 : List Int) (N : Int) (P : Int → S26) (B : Int → S53) : Prop :=
  (∀ g, 0 ≤ g → g < 4 → Own l0 N g (P g) (B g)) ∧
  ∀ h, 0 ≤ h → h < 4 → (P h).f2 = 4 ∨ (P h).f2 = 5 → ((P h).f2 = 4 ∧ ∃ k, 0 ≤ k ∧ k < 4 ∧ k ≠ h ∧ (P h).f5 ≤ k ∧ (P h).f3 < (B k).f1) ∨ ∀ g, 0 ≤ g → g < 4 → Good (P h).f3 (P h).f4 h (P g) (B g)
theorem Own.blk {l0 : List Int} {N g : Int} {p : S26} {b : S53} (h : Own l0 N g p b) : b.f0 = 0 ∧ 0 ≤ b.f2 ∧ b.f2 ≤ b.f1 ∧ b.f1 ≤ N := h.1
theorem Own.bal {l0 : List Int} {N g : Int} {p : S26} {b : S53} (h : Own l0 N g p b) (hb : 0 < b.f2) : b.f2 % 4 = g := h.2.1 hb
theorem Own.inp {l0 : List Int} {N g : Int} {p : S26} {b : S53} (h : Own l0 N g p b) (hb : 0 < b.f2) : b.f3 ∈ l0 := h.2.2.1 hb
theorem Own.act {l0 : List Int} {N g : Int} {p : S26} {b : S53} (h : Own l0 N g p b) (hp : p.f2 ≠ 0) : p.f0 = g ∧ p.f1 = 0 ∧ 1 ≤ p.f2 ∧ p.f2 ≤ 6 ∧ 0 < p.f3 ∧ p.f3 ≤ N ∧ p.f3 % 4 = g ∧ 0 ≤ p.f5 ∧ p.f5 ≤ 4 ∧ 0 ≤ p.f7 := by
  rcases h.2.2.2.1 with x | x
  · exact absurd x hp
  · exact x
theorem Own.val {l0 : List Int} {N g : Int} {p : S26} {b : S53} (h : Own l0 N g p b) (hp : p.f2 ≠ 0) : p.f4 ∈ l0 := h.2.2.2.2.1 hp
theorem Own.best {l0 : List Int} {N g : Int} {p : S26} {b : S53} (h : Own l0 N g p b) (hp : p.f2 ≠ 0) (hb : 0 < p.f7) : p.f6 ∈ l0 := h.2.2.2.2.2.1 hp hb
theorem Own.two {l0 : List Int} {N g : Int} {p : S26} {b : S53} (h : Own l0 N g p b) (hp : p.f2 = 2 ∨ p.f2 = 3) : b.f1 = p.f3 := h.2.2.2.2.2.2.1 hp
theorem Own.four {l0 : List Int} {N g : Int} {p : S26} {b : S53} (h : Own l0 N g p b) (hp : p.f2 = 4 ∨ p.f2 = 5) : b.f1 = p.f3 ∧ b.f2 = p.f3 ∧ b.f3 = p.f4 := h.2.2.2.2.2.2.2 hp
theorem Own.mono {l0 : List Int} {N N' g : Int} {p : S26} {b : S53} (h : Own l0 N g p b) (hN : N ≤ N') : Own l0 N' g p b := by
  have hb := h.blk
  refine ⟨⟨hb.1, hb.2.1, hb.2.2.1, by omega⟩, fun x => h.bal x, fun x => h.inp x, ?_, fun x => h.val x, fun x y => h.best x y, fun x => h.two x, fun x => h.four x⟩
  by_cases e : p.f2 = 0
  · exact .inl e
  · have ha := h.act e
    exact .inr (by omega)
theorem Good.of_block {n v h : Int} {p p' : S26} {b : S53} (hG : Good n v h p b) (hp : p'.f2 ≠ 2 ∧ p'.f2 ≠ 3) : Good n v h p' b := ⟨hG.1, fun x => absurd x hp.1, fun x => absurd x hp.1, fun x => absurd x hp.2⟩
section
variable {l0 : List Int} {N N' a : Int} {P P' : Int → S26} {B B' : Int → S53} {p' : S26} {b' : S53}
theorem inv_upd (hI : Inv l0 N P B) (hN : N ≤ N') (ha0 : 0 ≤ a) (ha4 : a < 4) (hPa : P' a = p') (hBa : B' a = b') (hPo : ∀ g, 0 ≤ g → g < 4 → g ≠ a → P' g = P g) (hBo : ∀ g, 0 ≤ g → g < 4 → g ≠ a → B' g = B g)
    (hown : Own l0 N' a p' b') (hf1 : (B a).f1 ≤ b'.f1)
    (hgood : ∀ h, 0 ≤ h → h < 4 → h ≠ a → (P h).f3 % 4 = h ∧ 0 < (P h).f3 ∧ (B h).f2 = (P h).f3 ∧ (B h).f3 = (P h).f4 → (∀ g, 0 ≤ g → g < 4 → Good (P h).f3 (P h).f4 h (P g) (B g)) → Good (P h).f3 (P h).f4 h p' b')
    (hself : p'.f2 = 4 ∨ p'.f2 = 5 → (p'.f2 = 4 ∧ ∃ k, 0 ≤ k ∧ k < 4 ∧ k ≠ a ∧ p'.f5 ≤ k ∧ p'.f3 < (B k).f1) ∨ (∀ g, 0 ≤ g → g < 4 → g ≠ a → Good p'.f3 p'.f4 a (P g) (B g))) : Inv l0 N' P' B' := by
  refine ⟨fun g h0 h4 => ?_, fun h h0 h4 hph => ?_⟩
  · by_cases e : g = a
    · subst e
      rw [hPa, hBa]
      exact hown
    · rw [hPo g h0 h4 e, hBo g h0 h4 e]
      exact (hI.1 g h0 h4).mono hN
  · by_cases e : h = a
    · subst e
      rw [hPa] at hph ⊢
      rcases hself hph with ⟨h5, k, k0, k4, ke, k5, k3⟩ | hG
      · exact .inl ⟨h5, k, k0, k4, ke, k5, by rw [hBo k k0 k4 ke]; exact k3⟩
      · refine .inr fun g g0 g4 => ?_
        by_cases eg : g = h
        · subst eg
          rw [hPa, hBa]
          have h8 := hown.four hph
          have hp2 : p'.f2 ≠ 2 ∧ p'.f2 ≠ 3 := by clear hself hgood hG; omega
          exact ⟨fun _ => h8.2.2, fun x => absurd x hp2.1, fun x => absurd x hp2.1, fun x => absurd x hp2.2⟩
        · rw [hPo g g0 g4 eg, hBo g g0 g4 eg]
          exact hG g g0 g4 eg
    · have ho := hI.1 h h0 h4
      rw [hPo h h0 h4 e] at hph ⊢
      rcases hI.2 h h0 h4 hph with ⟨h5, k, k0, k4, ke, k5, k3⟩ | hG
      · refine .inl ⟨h5, k, k0, k4, ke, k5, ?_⟩
        by_cases ek : k = a
        · subst ek
          rw [hBa]
          exact Int.lt_of_lt_of_le k3 hf1
        · rw [hBo k k0 k4 ek]
          exact k3
      · refine .inr fun g g0 g4 => ?_
        by_cases eg : g = a
        · subst eg
          rw [hPa, hBa]
          have h8 := ho.four hph
          have hp0 : (P h).f2 ≠ 0 := by clear hself hgood hG; omega
          have h4' := ho.act hp0
          exact hgood h h0 h4 e ⟨h4'.2.2.2.2.2.2.1, h4'.2.2.2.2.1, h8.2.1, h8.2.2⟩ hG
        · rw [hPo g g0 g4 eg, hBo g g0 g4 eg]
          exact hG g g0 g4
/-- A ballot begins, or has been broken off: the block stays. -/
theorem inv_idle (hI : Inv l0 N P B) (hN : N ≤ N') (ha0 : 0 ≤ a) (ha4 : a < 4) (hPa : P' a = p') (hB : B' = B) (hPo : ∀ g, 0 ≤ g → g < 4 → g ≠ a → P' g = P g) (hph : p'.f2 = 1 ∨ p'.f2 = 6)
    (h : p'.f0 = a ∧ p'.f1 = 0 ∧ 0 < p'.f3 ∧ p'.f3 ≤ N' ∧ p'.f3 % 4 = a ∧ 0 ≤ p'.f5 ∧ p'.f5 ≤ 4 ∧ 0 ≤ p'.f7) (hv : p'.f4 ∈ l0) (hb : 0 < p'.f7 → p'.f6 ∈ l0) : Inv l0 N' P' B' := by
  subst hB
  have ho := (hI.1 a ha0 ha4).mono hN
  have hp2 : p'.f2 ≠ 2 ∧ p'.f2 ≠ 3 ∧ p'.f2 ≠ 4 ∧ p'.f2 ≠ 5 ∧ 1 ≤ p'.f2 ∧ p'.f2 ≤ 6 := by clear hb; omega
  refine inv_upd hI hN ha0 ha4 hPa rfl hPo (fun _ _ _ _ => rfl) ?_ (Int.le_refl _) ?_ (fun x => absurd x (by clear hb; omega))
  · exact ⟨ho.blk, fun x => ho.bal x, fun x => ho.inp x, .inr ⟨h.1, h.2.1, hp2.2.2.2.2.1, hp2.2.2.2.2.2, h.2.2⟩, fun _ => hv, fun _ => hb, fun x => absurd x (by clear hb; omega), fun x => absurd x (by clear hb; omega)⟩
  · intro g _ _ _ _ hG
    exact (hG a ha0 ha4).of_block ⟨hp2.1, hp2.2.1⟩
/-- The first writing. -/
theorem inv_write1 (hI : Inv l0 N P B) (ha0 : 0 ≤ a) (ha4 : a < 4) (hPo : ∀ g, 0 ≤ g → g < 4 → g ≠ a → P' g = P g) (hBo : ∀ g, 0 ≤ g → g < 4 → g ≠ a → B' g = B g) (hph : (P a).f2 = 1) (hlt : (B a).f1 < (P a).f3)
    (hPa : P' a = ⟨a, 0, 2, (P a).f3, (P a).f4, 0, (B a).f3, (B a).f2⟩) (hBa : B' a = ⟨0, (P a).f3, (B a).f2, (B a).f3⟩) : Inv l0 N P' B' := by
  have ho := hI.1 a ha0 ha4
  have hb := ho.blk
  have hne : (P a).f2 ≠ 0 := by omega
  have hp := ho.act hne
  refine inv_upd hI (Int.le_refl _) ha0 ha4 hPa hBa hPo hBo ?_ (by dsimp only; omega) ?_ (fun x => by dsimp only at x; omega)
  · refine ⟨?_, fun x => ho.bal x, fun x => ho.inp x, ?_, fun _ => ho.val hne, fun _ x => ho.inp x, fun _ => rfl, fun x => ?_⟩
    · dsimp only; omega
    · dsimp only; exact .inr (by omega)
    · dsimp only at x; omega
  · intro g g0 g4 _ _ hG
    have hG := hG a ha0 ha4
    refine ⟨hG.1, fun _ _ => hG.1, fun _ _ x => ?_, fun x => ?_⟩
    · dsimp only at x; omega
    · dsimp only at x; omega
/-- The second writing. -/
theorem inv_write2 (hI : Inv l0 N P B) (ha0 : 0 ≤ a) (ha4 : a < 4) (hPo : ∀ g, 0 ≤ g → g < 4 → g ≠ a → P' g = P g) (hBo : ∀ g, 0 ≤ g → g < 4 → g ≠ a → B' g = B g) (hph : (P a).f2 = 3)
    (hPa : P' a = ⟨a, 0, 4, (P a).f3, (P a).f4, 0, (P a).f6, (P a).f7⟩) (hBa : B' a = ⟨0, (P a).f3, (P a).f3, (P a).f4⟩) : Inv l0 N P' B' := by
  have ho := hI.1 a ha0 ha4
  have hb := ho.blk
  have hne : (P a).f2 ≠ 0 := by omega
  have hp := ho.act hne
  have hw := ho.two (.inr hph)
  refine inv_upd hI (Int.le_refl _) ha0 ha4 hPa hBa hPo hBo ?_ (by dsimp only; omega) ?_ ?_
  · refine ⟨?_, fun _ => ?_, fun _ => ho.val hne, ?_, fun _ => ho.val hne, fun _ x => ho.best hne x, fun _ => rfl, fun _ => ⟨rfl, rfl, rfl⟩⟩
    · dsimp only; omega
    · dsimp only; omega
    · dsimp only; exact .inr (by omega)
  · intro g g0 g4 ge gm hG
    have hG := hG a ha0 ha4
    refine ⟨fun x => ?_, fun x => ?_, fun x => ?_, fun x => ?_⟩
    · dsimp only at x ⊢
      exact hG.2.2.2 hph (by clear hG; omega)
    · dsimp only at x; omega
    · dsimp only at x; omega
    · dsimp only at x; omega
  · intro _
    dsimp only
    by_cases hx : ∃ k, 0 ≤ k ∧ k < 4 ∧ k ≠ a ∧ (P a).f3 < (B k).f1
    · obtain ⟨k, k0, k4, ke, k3⟩ := hx
      exact .inl ⟨rfl, k, k0, k4, ke, k0, k3⟩
    · refine .inr fun g g0 g4 ge => ?_
      have hle : (B g).f1 ≤ (P a).f3 := Int.not_lt.1 fun hlt => hx ⟨g, g0, g4, ge, hlt⟩
      clear hx
      have og := hI.1 g g0 g4
      have ob := og.blk
      refine ⟨fun x => ?_, fun x y => ?_, fun x y => ?_, fun x y => ?_⟩
      · have := og.bal (by omega)
        omega
      · have := og.two (.inl x)
        omega
      · have := og.two (.inl x)
        omega
      · have := og.two (.inr x)
        omega
/-- A reading: s is the place that is looked at (at 4 or above: none), nx what is next. -/
theorem inv_read (hI : Inv l0 N P B) (ha0 : 0 ≤ a) (ha4 : a < 4) (hPo : ∀ g, 0 ≤ g → g < 4 → g ≠ a → P' g = P g) (hB : B' = B) (hph : (P a).f2 = 2 ∨ (P a).f2 = 4) {s nx best bb ph val : Int}
    (hs : ((P a).f5 = a ∧ s = (P a).f5 + 1) ∨ ((P a).f5 ≠ a ∧ s = (P a).f5))
    (hl : (s < 4 ∧ (B s).f1 ≤ (P a).f3 ∧ ((s + 1 = a ∧ nx = s + 2) ∨ (s + 1 ≠ a ∧ nx = s + 1)) ∧ (((P a).f2 = 2 ∧ (P a).f7 < (B s).f2 ∧ best = (B s).f3 ∧ bb = (B s).f2) ∨ (((P a).f2 = 4 ∨ (B s).f2 ≤ (P a).f7) ∧ best = (P a).f6 ∧ bb = (P a).f7))) ∨ (4 ≤ s ∧ nx = s ∧ best = (P a).f6 ∧ bb = (P a).f7))
    (hr : (nx < 4 ∧ ph = (P a).f2 ∧ val = (P a).f4) ∨ (4 ≤ nx ∧ (P a).f2 = 4 ∧ ph = 5 ∧ val = (P a).f4) ∨ (4 ≤ nx ∧ (P a).f2 = 2 ∧ ph = 3 ∧ ((0 < bb ∧ val = best) ∨ (bb ≤ 0 ∧ val = (P a).f4))))
    (hPa : P' a = ⟨a, 0, ph, (P a).f3, val, nx, best, bb⟩) : Inv l0 N P' B' := by
  subst hB
  have ho := hI.1 a ha0 ha4
  have hne : (P a).f2 ≠ 0 := by clear hl hr; omega
  have hp := ho.act hne
  have hs0 : 0 ≤ s := by clear hl hr; omega
  have hos := hI.1 s hs0
  have hbest : 0 < bb → best ∈ l0 := by
    intro hb
    rcases hl with ⟨hs4, _, _, ⟨_, _, e1, e2⟩ | ⟨_, e1, e2⟩⟩ | ⟨_, _, e1, e2⟩
    · rw [e1]
      exact (hos hs4).inp (by rw [← e2]; exact hb)
    · rw [e1]; exact ho.best hne (by rw [← e2]; exact hb)
    · rw [e1]; exact ho.best hne (by rw [← e2]; exact hb)
  have hbb : 0 ≤ bb ∧ (P a).f7 ≤ bb := by clear hr hs; omega
  have hnx : 0 ≤ nx ∧ nx ≤ 4 := by
    clear hr
    rcases hl with ⟨hs4, _, e, _⟩ | ⟨_, e, _, _⟩
    · omega
    · omega
  have hph' : (ph = 2 ∧ (P a).f2 = 2 ∧ nx < 4) ∨ (ph = 4 ∧ (P a).f2 = 4 ∧ nx < 4 ∧ val = (P a).f4) ∨ (ph = 5 ∧ (P a).f2 = 4 ∧ 4 ≤ nx ∧ val = (P a).f4) ∨ (ph = 3 ∧ (P a).f2 = 2 ∧ 4 ≤ nx ∧ (0 < bb → val = best)) := by
    rcases hr with ⟨h1, h2, h3⟩ | ⟨h1, h2, h3, h4⟩ | ⟨h1, h2, h3, h4⟩
    · rcases hph with x | x
      · exact .inl ⟨by rw [h2]; exact x, x, h1⟩
      · exact .inr (.inl ⟨by rw [h2]; exact x, x, h1, h3⟩)
    · exact .inr (.inr (.inl ⟨h3, h2, h1, h4⟩))
    · refine .inr (.inr (.inr ⟨h3, h2, h1, fun hb => ?_⟩))
      rcases h4 with ⟨_, e⟩ | ⟨x, _⟩
      · exact e
      · exact absurd hb (by clear hl; omega)
  have hval : val ∈ l0 := by
    rcases hr with ⟨_, _, e⟩ | ⟨_, _, _, e⟩ | ⟨_, _, _, ⟨hb, e⟩ | ⟨_, e⟩⟩
    · rw [e]; exact ho.val hne
    · rw [e]; exact ho.val hne
    · rw [e]; exact hbest hb
    · rw [e]; exact ho.val hne
  clear hr
  have HL := Aside0.mk hl
  have HS := Aside0.mk hs
  clear hl hs
  refine inv_upd hI (Int.le_refl _) ha0 ha4 hPa rfl hPo (fun _ _ _ _ => rfl) ?_ (Int.le_refl _) ?_ ?_
  · refine ⟨ho.blk, fun x => ho.bal x, fun x => ho.inp x, ?_, fun _ => hval, fun _ => hbest, fun x => ?_, fun x => ?_⟩
    · clear hbest
      dsimp only
      exact .inr (by omega)
    · dsimp only at x
      exact ho.two (.inl (by clear hbest; omega))
    · dsimp only at x ⊢
      have h8 := ho.four (.inl (by clear hbest; omega))
      exact ⟨h8.1, h8.2.1, h8.2.2.trans (by clear hbest; omega)⟩
  · intro h h0 h4' he hm hG
    have hGa := hG a ha0 ha4
    have key : (P a).f2 = 2 → (P h).f3 < (P a).f3 → ((P h).f3 ≤ bb → best = (P h).f4) ∧ (h < nx → (P h).f3 ≤ bb) := by
      intro x y
      have g2 := hGa.2.1 x y
      have g3 := hGa.2.2.1 x y
      rcases HL.out with ⟨hs4, hsf, hnx', hup⟩ | ⟨hs4, hnx', e1, e2⟩
      · have hGs := (hG s hs0 hs4).1
        refine ⟨fun z => ?_, fun z => ?_⟩
        · rcases hup with ⟨_, _, e1, e2⟩ | ⟨_, e1, e2⟩
          · rw [e1]; exact hGs (by rw [← e2]; exact z)
          · rw [e1]; exact g2 (by rw [← e2]; exact z)
        · by_cases hlt : h < (P a).f5
          · have := g3 hlt
            exact Int.le_trans this hbb.2
          · have e : h = s := by
              clear g2 g3 hGs hup hph' hbest
              have := HS.out
              omega
            rw [← e] at hup
            clear g2 g3 hGs hph' hbest
            omega
      · refine ⟨fun z => by rw [e1]; exact g2 (by rw [← e2]; exact z), fun z => ?_⟩
        have := g3 (by
          clear g2 g3 hph' hbest
          have := HS.out
          omega)
        exact Int.le_trans this hbb.2
    refine ⟨hGa.1, fun x y => ?_, fun x y => ?_, fun x y => ?_⟩
    · dsimp only at x y ⊢
      exact (key (by clear key hbest; omega) y).1
    · dsimp only at x y ⊢
      exact (key (by clear key hbest; omega) y).2
    · dsimp only at x y ⊢
      obtain ⟨x2, x4, xv⟩ : (P a).f2 = 2 ∧ 4 ≤ nx ∧ (0 < bb → val = best) := by
        rcases hph' with ⟨e, _⟩ | ⟨e, _⟩ | ⟨e, _⟩ | ⟨_, e⟩
        · rw [e] at x; exact absurd x (by decide)
        · rw [e] at x; exact absurd x (by decide)
        · rw [e] at x; exact absurd x (by decide)
        · exact e
      have hk := key x2 y
      have hb := hk.2 (by clear hk key xv hph' hbest; omega)
      rw [xv (by clear hk key xv hph' hbest; omega)]
      exact hk.1 hb
  · intro x
    dsimp only at x ⊢
    clear hbest
    obtain ⟨x4, xv, xn⟩ : (P a).f2 = 4 ∧ val = (P a).f4 ∧ ((ph = 4 ∧ nx < 4) ∨ (ph = 5 ∧ 4 ≤ nx)) := by omega
    rcases hI.2 a ha0 ha4 (.inl x4) with ⟨b4, k, k0, k4, ke, k5, k3⟩ | hG
    · rcases HL.out with ⟨hs4, hsf, hnx', hup⟩ | ⟨hs4, hnx', e1, e2⟩
      · have hks : k ≠ s := by
          intro e
          rw [e] at k3
          exact absurd k3 (Int.not_lt.2 hsf)
        have hk : nx ≤ k := by
          have := HS.out
          clear hup hph' xn x
          omega
        exact .inl ⟨by clear hup hph' hnx'; omega, k, k0, k4, ke, hk, k3⟩
      · have := HS.out
        clear hph' xn x
        omega
    · refine .inr fun g g0 g4 ge => ?_
      rw [xv]
      exact hG g g0 g4
/-- Whoever has decided has decided the same, and a value that somebody had. -/
theorem inv_agree (hI : Inv l0 N P B) {g h : Int} (g0 : 0 ≤ g) (g4 : g < 4) (h0 : 0 ≤ h) (h4 : h < 4) (hg : (P g).f2 = 5) (hh : (P h).f2 = 5) : (P g).f4 = (P h).f4 ∧ (P g).f4 ∈ l0 := by
  have og := hI.1 g g0 g4
  have oh := hI.1 h h0 h4
  have og8 := og.four (.inr hg)
  have oh8 := oh.four (.inr hh)
  refine ⟨?_, og.val (by omega)⟩
  have Gg : ∀ x, 0 ≤ x → x < 4 → Good (P g).f3 (P g).f4 g (P x) (B x) := by
    rcases hI.2 g g0 g4 (.inr hg) with ⟨x, _⟩ | hG
    · rw [hg] at x; exact absurd x (by decide)
    · exact hG
  have Gh : ∀ x, 0 ≤ x → x < 4 → Good (P h).f3 (P h).f4 h (P x) (B x) := by
    rcases hI.2 h h0 h4 (.inr hh) with ⟨x, _⟩ | hG
    · rw [hh] at x; exact absurd x (by decide)
    · exact hG
  have Gg := (Gg h h0 h4).1
  have Gh := (Gh g g0 g4).1
  by_cases hle : (P g).f3 ≤ (P h).f3
  · have := Gg (by rw [oh8.2.1]; exact hle)
    rw [← this, oh8.2.2]
  · have := Gh (by rw [og8.2.1]; exact Int.le_of_lt (Int.not_le.1 hle))
    rw [← this, og8.2.2]
end

theorem rd_T26_other {l : List S26} {i g : Int} (x : S26) (h0 : 0 ≤ i) (g0 : 0 ≤ g) (e : g ≠ i) : rd_T26 (l.set i.toNat x) g = rd_T26 l g := by
  have : ¬ i.toNat = g.toNat := by omega
  simp [rd_T26, List.getD_eq_getElem?_getD, List.getElem?_set, this]
theorem rd_T53_set {l : List S53} {i : Int} {x : S53} (h0 : 0 ≤ i) (h1 : i < (l.length : Int)) : rd_T53 (l.set i.toNat x) i = x := by
  have hn : i.toNat < l.length := by omega
  simp [rd_T53, List.getD_eq_getElem?_getD, hn]
theorem rd_T53_other {l : List S53} {i g : Int} (x : S53) (h0 : 0 ≤ i) (g0 : 0 ≤ g) (e : g ≠ i) : rd_T53 (l.set i.toNat x) g = rd_T53 l g := by
  have : ¬ i.toNat = g.toNat := by omega
  simp [rd_T53, List.getD_eq_getElem?_getD, List.getElem?_set, this]
def InvL (l0 : List Int) (N : Int) (ps : List S26) (bl : List S53) : Prop := ps.length = 4 ∧ bl.length = 4 ∧ Inv l0 N (rd_T26 ps) (rd_T53 bl)
/-! a step by its phase -/
theorem of_zero {b : S53} (h : b.f0 = 0) : pxOf b 0 = b := by
  unfold pxOf
  rw [if_neg (by omega)]
theorem g_one (h bal val nx best bb : Int) (bl : List S53) (hb : (rd_T53 bl h).f0 = 0) : impl_Px_step.g h 0 1 bal val nx best bb bl = if bal < (rd_T53 bl h).f1 ∨ (rd_T53 bl h).f1 = bal then (h, 0, 6, bal, val, nx, best, bb, bl) else (h, 0, 2, bal, val, 0, (rd_T53 bl h).f3, (rd_T53 bl h).f2, bl.set h.toNat ⟨0, bal, (rd_T53 bl h).f2, (rd_T53 bl h).f3⟩) := by
  unfold impl_Px_step.g pxWrite pxWriteD
  rw [of_zero hb, if_pos rfl, if_pos rfl, hb]
  by_cases c : bal < (rd_T53 bl h).f1 ∨ (rd_T53 bl h).f1 = bal
  · rw [if_pos c, if_pos (.inr c)]
  · rw [if_neg c, if_neg (fun x => x.elim (by omega) c)]
theorem g_three (h bal val nx best bb : Int) (bl : List S53) (hb : (rd_T53 bl h).f0 = 0) : impl_Px_step.g h 0 3 bal val nx best bb bl = if bal < (rd_T53 bl h).f1 ∨ ¬ (rd_T53 bl h).f1 = bal then (h, 0, 6, bal, val, nx, best, bb, bl) else (h, 0, 4, bal, val, 0, best, bb, bl.set h.toNat ⟨0, bal, bal, val⟩) := by
  unfold impl_Px_step.g pxWrite pxWriteD
  rw [of_zero hb, if_neg (by decide), if_pos rfl, if_neg (by decide), hb]
  by_cases c : bal < (rd_T53 bl h).f1 ∨ ¬ (rd_T53 bl h).f1 = bal
  · rw [if_pos c, if_pos (.inr c)]
  · rw [if_neg c, if_neg (fun x => x.elim (by omega) c)]
theorem fin_is (h ph bal val nx best bb : Int) (hp : ph = 2 ∨ ph = 4) : ∃ ph' val', pxFin h 0 ph bal val nx best bb = (h, 0, ph', bal, val', nx, best, bb) ∧ ((nx < 4 ∧ ph' = ph ∧ val' = val) ∨ (4 ≤ nx ∧ ph = 4 ∧ ph' = 5 ∧ val' = val) ∨ (4 ≤ nx ∧ ph = 2 ∧ ph' = 3 ∧ ((0 < bb ∧ val' = best) ∨ (bb ≤ 0 ∧ val' = val)))) := by
  unfold pxFin
  by_cases c : nx < 4
  · rw [if_pos c]
    exact ⟨ph, val, rfl, .inl ⟨c, rfl, rfl⟩⟩
  · rw [if_neg c]
    by_cases d : ph = 4
    · rw [if_pos d]
      exact ⟨5, val, rfl, .inr (.inl ⟨by omega, d, rfl, rfl⟩)⟩
    · rw [if_neg d]
      by_cases e : 0 < bb
      · rw [if_pos e]
        exact ⟨3, best, rfl, .inr (.inr ⟨by omega, by omega, rfl, .inl ⟨e, rfl⟩⟩)⟩
      · rw [if_neg e]
        exact ⟨3, val, rfl, .inr (.inr ⟨by omega, by omega, rfl, .inr ⟨by omega, rfl⟩⟩)⟩
theorem skip_is (h nx : Int) : (nx = h ∧ pxSkip h nx = nx + 1) ∨ (nx ≠ h ∧ pxSkip h nx = nx) := by
  unfold pxSkip
  by_cases c : nx = h
  · rw [if_pos c]; exact .inl ⟨c, rfl⟩
  · rw [if_neg c]; exact .inr ⟨c, rfl⟩
theorem read_is (h ph bal val nx0 best0 bb0 : Int) (bl : List S53) (hall : ∀ g, 0 ≤ g → g < 4 → (rd_T53 bl g).f0 = 0) (hp : ph = 2 ∨ ph = 4) (hn0 : 0 ≤ nx0) (hn4 : nx0 ≤ 4) (h4 : h < 4) :
    (∃ s, 0 ≤ s ∧ s ≤ 4 ∧ pxRead h 0 ph bal val nx0 best0 bb0 bl = (h, 0, 6, bal, val, s, best0, bb0)) ∨
    ∃ s nx best bb ph' val', pxRead h 0 ph bal val nx0 best0 bb0 bl = (h, 0, ph', bal, val', nx, best, bb) ∧ ((nx0 = h ∧ s = nx0 + 1) ∨ (nx0 ≠ h ∧ s = nx0)) ∧
      ((s < 4 ∧ (rd_T53 bl s).f1 ≤ bal ∧ ((s + 1 = h ∧ nx = s + 2) ∨ (s + 1 ≠ h ∧ nx = s + 1)) ∧ ((ph = 2 ∧ bb0 < (rd_T53 bl s).f2 ∧ best = (rd_T53 bl s).f3 ∧ bb = (rd_T53 bl s).f2) ∨ ((ph = 4 ∨ (rd_T53 bl s).f2 ≤ bb0) ∧ best = best0 ∧ bb = bb0))) ∨ (4 ≤ s ∧ nx = s ∧ best = best0 ∧ bb = bb0)) ∧
      ((nx < 4 ∧ ph' = ph ∧ val' = val) ∨ (4 ≤ nx ∧ ph = 4 ∧ ph' = 5 ∧ val' = val) ∨ (4 ≤ nx ∧ ph = 2 ∧ ph' = 3 ∧ ((0 < bb ∧ val' = best) ∨ (bb ≤ 0 ∧ val' = val)))) := by
  obtain ⟨s, hs⟩ : ∃ s, pxSkip h nx0 = s := ⟨_, rfl⟩
  have hsk := skip_is h nx0
  unfold pxRead
  rw [hs] at hsk ⊢
  by_cases c : s < 4
  · rw [if_pos c]
    have hz := hall s (by omega) c
    rw [of_zero hz]
    unfold pxLook
    by_cases d : 0 < (rd_T53 bl s).f0 ∨ bal < (rd_T53 bl s).f1
    · rw [if_pos d]
      exact .inl ⟨s, by omega, by omega, rfl⟩
    · rw [if_neg d]
      have hle : (rd_T53 bl s).f1 ≤ bal := by omega
      have hsk2 := skip_is h (s + 1)
      by_cases e : ph = 2 ∧ bb0 < (rd_T53 bl s).f2
      · rw [if_pos e]
        obtain ⟨ph', val', h1, h2⟩ := fin_is h ph bal val (pxSkip h (s + 1)) (rd_T53 bl s).f3 (rd_T53 bl s).f2 hp
        exact .inr ⟨s, _, _, _, ph', val', h1, hsk, .inl ⟨c, hle, by omega, .inl ⟨e.1, e.2, rfl, rfl⟩⟩, h2⟩
      · rw [if_neg e]
        obtain ⟨ph', val', h1, h2⟩ := fin_is h ph bal val (pxSkip h (s + 1)) best0 bb0 hp
        exact .inr ⟨s, _, _, _, ph', val', h1, hsk, .inl ⟨c, hle, by omega, .inr ⟨by omega, rfl, rfl⟩⟩, h2⟩
  · rw [if_neg c]
    obtain ⟨ph', val', h1, h2⟩ := fin_is h ph bal val s best0 bb0 hp
    exact .inr ⟨s, _, _, _, ph', val', h1, hsk, .inr ⟨by omega, rfl, rfl, rfl⟩, h2⟩
theorem g_read (h ph bal val nx best bb : Int) (bl : List S53) (hp : ph = 2 ∨ ph = 4) {a0 a1 a2 a3 a4 a5 a6 a7 : Int} (e : pxRead h 0 ph bal val nx best bb bl = (a0, a1, a2, a3, a4, a5, a6, a7)) : impl_Px_step.g h 0 ph bal val nx best bb bl = (a0, a1, a2, a3, a4, a5, a6, a7, bl) := by
  unfold impl_Px_step.g
  rw [if_neg (by omega), if_neg (by omega), e]
theorem step_keeps {l0 : List Int} {N h : Int} {ps : List S26} {bl : List S53} (hI : InvL l0 N ps bl) (h0 : 0 ≤ h) (h4 : h < 4) (hp1 : 1 ≤ (rd_T26 ps h).f2) (hp4 : (rd_T26 ps h).f2 ≤ 4) :
    ∃ q, impl_Px_step.f (rd_T26 ps h).f0 (rd_T26 ps h).f1 (rd_T26 ps h).f2 (rd_T26 ps h).f3 (rd_T26 ps h).f4 (rd_T26 ps h).f5 (rd_T26 ps h).f6 (rd_T26 ps h).f7 bl = some q ∧ impl_Px_step.g (rd_T26 ps h).f0 (rd_T26 ps h).f1 (rd_T26 ps h).f2 (rd_T26 ps h).f3 (rd_T26 ps h).f4 (rd_T26 ps h).f5 (rd_T26 ps h).f6 (rd_T26 ps h).f7 bl = q ∧ InvL l0 N (ps.set h.toNat ⟨q.1, q.2.1, q.2.2.1, q.2.2.2.1, q.2.2.2.2.1, q.2.2.2.2.2.1, q.2.2.2.2.2.2.1, q.2.2.2.2.2.2.2.1⟩) q.2.2.2.2.2.2.2.2 ∧ q.2.2.1 ≠ 0 := by
  obtain ⟨hlp, hlb, hI⟩ := hI
  have ho := hI.1 h h0 h4
  have hne : (rd_T26 ps h).f2 ≠ 0 := by omega
  have ha := ho.act hne
  have hz : ∀ g, 0 ≤ g → g < 4 → (rd_T53 bl g).f0 = 0 := fun g g0 g4 => (hI.1 g g0 g4).blk.1
  have hPa : ∀ x, rd_T26 (ps.set h.toNat x) h = x := fun x => rp_set h0 (by omega)
  have hPo : ∀ x g, 0 ≤ g → g < 4 → g ≠ h → rd_T26 (ps.set h.toNat x) g = rd_T26 ps g := fun x g g0 _ e => rd_T26_other x h0 g0 e
  have hBa : ∀ x, rd_T53 (bl.set h.toNat x) h = x := fun x => rd_T53_set h0 (by omega)
  have hBo : ∀ x g, 0 ≤ g → g < 4 → g ≠ h → rd_T53 (bl.set h.toNat x) g = rd_T53 bl g := fun x g g0 _ e => rd_T53_other x h0 g0 e
  obtain ⟨y, hy⟩ : ∃ y, rd_T26 ps h = y := ⟨_, rfl⟩
  have idle : ∀ (nx best bb : Int), 0 ≤ nx → nx ≤ 4 → best = (rd_T26 ps h).f6 → bb = (rd_T26 ps h).f7 → InvL l0 N (ps.set h.toNat ⟨h, 0, 6, (rd_T26 ps h).f3, (rd_T26 ps h).f4, nx, best, bb⟩) bl := by
    intro nx best bb n0 n4 e1 e2
    refine ⟨by simpa using hlp, hlb, inv_idle hI (Int.le_refl _) h0 h4 (hPa _) rfl (hPo _) (.inr rfl) ⟨rfl, rfl, ha.2.2.2.2.1, ha.2.2.2.2.2.1, ha.2.2.2.2.2.2.1, n0, n4, ?_⟩ (ho.val hne) ?_⟩
    · dsimp only; rw [e2]; exact ha.2.2.2.2.2.2.2.2.2
    · dsimp only; rw [e1, e2]; exact ho.best hne
  unfold impl_Px_step.f
  rw [if_pos ⟨hlb, by omega, by omega, hp1, hp4, by omega, by omega⟩]
  refine ⟨_, rfl, rfl, ?_⟩
  rw [ha.1, ha.2.1]
  have four : (rd_T26 ps h).f2 = 1 ∨ (rd_T26 ps h).f2 = 3 ∨ ((rd_T26 ps h).f2 = 2 ∨ (rd_T26 ps h).f2 = 4) := by omega
  rcases four with c | c | c
  · rw [c, g_one _ _ _ _ _ _ _ (hz h h0 h4)]
    by_cases d : (rd_T26 ps h).f3 < (rd_T53 bl h).f1 ∨ (rd_T53 bl h).f1 = (rd_T26 ps h).f3
    · rw [if_pos d]
      exact ⟨idle (rd_T26 ps h).f5 (rd_T26 ps h).f6 (rd_T26 ps h).f7 (by omega) (by omega) rfl rfl, show (6 : Int) ≠ 0 by decide⟩
    · rw [if_neg d]
      exact ⟨⟨by simpa using hlp, by simpa using hlb, inv_write1 hI h0 h4 (hPo _) (hBo _) c (by omega) (hPa _) (hBa _)⟩, show (2 : Int) ≠ 0 by decide⟩
  · rw [c, g_three _ _ _ _ _ _ _ (hz h h0 h4)]
    by_cases d : (rd_T26 ps h).f3 < (rd_T53 bl h).f1 ∨ ¬ (rd_T53 bl h).f1 = (rd_T26 ps h).f3
    · rw [if_pos d]
      exact ⟨idle (rd_T26 ps h).f5 (rd_T26 ps h).f6 (rd_T26 ps h).f7 (by omega) (by omega) rfl rfl, show (6 : Int) ≠ 0 by decide⟩
    · rw [if_neg d]
      exact ⟨⟨by simpa using hlp, by simpa using hlb, inv_write2 hI h0 h4 (hPo _) (hBo _) c (hPa _) (hBa _)⟩, show (4 : Int) ≠ 0 by decide⟩
  · rcases read_is h (rd_T26 ps h).f2 (rd_T26 ps h).f3 (rd_T26 ps h).f4 (rd_T26 ps h).f5 (rd_T26 ps h).f6 (rd_T26 ps h).f7 bl hz c (by omega) (by omega) h4 with ⟨s, s0, s4, e⟩ | ⟨s, nx, best, bb, ph, val, e, hs, hl, hr⟩
    · rw [g_read _ _ _ _ _ _ _ _ c e]
      exact ⟨idle s (rd_T26 ps h).f6 (rd_T26 ps h).f7 s0 s4 rfl rfl, show (6 : Int) ≠ 0 by decide⟩
    · rw [g_read _ _ _ _ _ _ _ _ c e]
      exact ⟨⟨by simpa using hlp, hlb, inv_read hI h0 h4 (hPo _) rfl c hs hl hr (hPa _)⟩, by dsimp only; omega⟩
/-! a host's next ballot -/
theorem mx_is (a b : Int) : (a < b ∧ mx a b = b) ∨ (b ≤ a ∧ mx a b = a) := by
  unfold mx
  by_cases c : a < b
  · rw [if_pos c]; exact .inl ⟨c, rfl⟩
  · rw [if_neg c]; exact .inr ⟨by omega, rfl⟩
theorem next_val {N h : Int} {bl : List S53} (hlb : bl.length = 4) (hz : ∀ g, 0 ≤ g → g < 4 → (rd_T53 bl g).f0 = 0 ∧ 0 ≤ (rd_T53 bl g).f1 ∧ (rd_T53 bl g).f1 ≤ N) (h0 : 0 ≤ h) (h4 : h < 4) (hN : N ≤ 1000000) : ∃ n, 0 < n ∧ n ≤ N + 7 ∧ n % 4 = h ∧ ∀ k, 4 < k → impl_nextBallot.f k h 0 bl = some n ∧ spec_l05Next.f k h 0 bl = some n := by
  have w1 : wrap64 (0 + 1) = 1 := by unfold wrap64; omega
  have w2 : wrap64 (1 + 1) = 2 := by unfold wrap64; omega
  have w3 : wrap64 (2 + 1) = 3 := by unfold wrap64; omega
  have w4 : wrap64 (3 + 1) = 4 := by unfold wrap64; omega
  have hl4 : (bl.length : Int) = 4 := by omega
  obtain ⟨z0, l0, u0⟩ := hz 0 (by decide) (by decide)
  obtain ⟨z1, l1, u1⟩ := hz 1 (by decide) (by decide)
  obtain ⟨z2, l2, u2⟩ := hz 2 (by decide) (by decide)
  obtain ⟨z3, l3, u3⟩ := hz 3 (by decide) (by decide)
  obtain ⟨m, hm⟩ : ∃ m, mx (mx (mx (mx 0 (rd_T53 bl 0).f1) (rd_T53 bl 1).f1) (rd_T53 bl 2).f1) (rd_T53 bl 3).f1 = m := ⟨_, rfl⟩
  have m0 : 0 ≤ m ∧ m ≤ N := by
    have e0 := mx_is 0 (rd_T53 bl 0).f1
    generalize mx 0 (rd_T53 bl 0).f1 = x0 at hm e0
    have e1 := mx_is x0 (rd_T53 bl 1).f1
    generalize mx x0 (rd_T53 bl 1).f1 = x1 at hm e1
    have e2 := mx_is x1 (rd_T53 bl 2).f1
    generalize mx x1 (rd_T53 bl 2).f1 = x2 at hm e2
    have e3 := mx_is x2 (rd_T53 bl 3).f1
    generalize mx x2 (rd_T53 bl 3).f1 = x3 at hm e3
    clear z0 z1 z2 z3 w1 w2 w3 w4
    omega
  refine ⟨wrap64 ((wrap64 ((wrap64 ((wrap64 (Int.tdiv m 4)) + 1)) * 4)) + h), ?_, ?_, ?_, fun k hk => ?_⟩
  · rw [Int.tdiv_eq_ediv_of_nonneg m0.1]; unfold wrap64; clear hm; omega
  · rw [Int.tdiv_eq_ediv_of_nonneg m0.1]; unfold wrap64; clear hm; omega
  · rw [Int.tdiv_eq_ediv_of_nonneg m0.1]; unfold wrap64; clear hm; omega
  · obtain ⟨k, rfl⟩ : ∃ m, k = m + 5 := ⟨k - 5, by omega⟩
    have nn : ¬ ((0 : Int) < 0) := by decide
    constructor
    · simp only [impl_nextBallot.f, impl_nextBallot.l0, impl_Block_of.f, hl4, z0, z1, z2, z3, w1, w2, w3, w4, nn, if_false, if_true, Option.bind_some, (by decide : (0 : Int) < 4), (by decide : (1 : Int) < 4), (by decide : (2 : Int) < 4), (by decide : (3 : Int) < 4), (by decide : ¬ (4 : Int) < 4), (by decide : (0 : Int) ≤ 0), (by decide : (0 : Int) ≤ 1), (by decide : (0 : Int) ≤ 2), (by decide : (0 : Int) ≤ 3), hm]
    · simp only [spec_l05Next.f, spec_l05Next.l0, spec_l05Of.f, hl4, z0, z1, z2, z3, w1, w2, w3, w4, nn, if_false, if_true, Option.bind_some, (by decide : (0 : Int) < 4), (by decide : (1 : Int) < 4), (by decide : (2 : Int) < 4), (by decide : (3 : Int) < 4), (by decide : ¬ (4 : Int) < 4), (by decide : (0 : Int) ≤ 0), (by decide : (0 : Int) ≤ 1), (by decide : (0 : Int) ≤ 2), (by decide : (0 : Int) ≤ 3), hm]
def numP (x : Int) : Bool := decide (0 ≤ x) && decide (x ≤ 2147483647)
def intsB (l : List Int) : Bool := decide (l.length ≤ 16) && l.all numP
theorem ints_loop (l : List Int) (hn : l.length ≤ 35184372088832) (d : Nat) : ∀ (k i : Nat), i ≤ l.length → l.length - i = d → d < k → spec_l02Ints.l0 k l (i : Int) = some ((l.drop i).all numP && decide ((l.length : Int) ≤ 16)) := by
  induction d with
  | zero =>
    intro k i hi hd hk
    obtain ⟨k, rfl⟩ : ∃ m, k = m + 1 := ⟨k - 1, by omega⟩
    simp only [spec_l02Ints.l0]
    rw [if_neg (by omega), List.drop_eq_nil_of_le (by omega)]
    simp
  | succ d ih =>
    intro k i hi hd hk
    obtain ⟨k, rfl⟩ : ∃ m, k = m + 1 := ⟨k - 1, by omega⟩
    have hlt : i < l.length := by omega
    simp only [spec_l02Ints.l0, spec_l02Int.f]
    rw [if_pos (by omega), if_pos (by omega), rd_get l i hlt, InR_eq, List.drop_eq_getElem_cons hlt, List.all_cons, wrap_small hlt hn, ih k (i + 1) (by omega) (by omega) (by omega)]
    have e : numP l[i] = (decide (0 ≤ l[i]) && decide (l[i] ≤ 2147483647)) := rfl
    rw [e]
    simp only [Option.bind_some]
    cases (decide (0 ≤ l[i]) && decide (l[i] ≤ 2147483647)) <;> simp
theorem spec_ints (l : List Int) (k : Nat) (hn : l.length ≤ 35184372088832) (hk : l.length < k) : spec_l02Ints.f k l = some (intsB l) := by
  unfold spec_l02Ints.f intsB
  refine (ints_loop l hn l.length k 0 (by omega) (by omega) (by omega)).trans ?_
  by_cases h2 : l.length ≤ 16
  · have h3 : decide ((l.length : Int) ≤ 16) = true := decide_eq_true (by omega)
    simp [h2, h3]
  · have h3 : decide ((l.length : Int) ≤ 16) = false := decide_eq_false (by omega)
    simp [h2, h3]

theorem start_is {h n v : Int} (h0 : 0 ≤ h) (h4 : h < 4) (n0 : 0 < n) (n1 : n ≤ 1000000) (nm : n % 4 = h) (v0 : 0 ≤ v) (v1 : v ≤ 2147483647) : impl_PxStart.f h 0 n v = some (h, 0, 1, n, v, 0, 0, 0, 0) := by
  have em : Int.tmod n 4 = h := by rw [Int.tmod_eq_emod_of_nonneg (by omega)]; exact nm
  have h3 : h ≤ 3 := by omega
  have n1' : 1 ≤ n := by omega
  have b1 : (1 : Int) ≤ 6 := by decide
  have b2 : (0 : Int) ≤ 4 := by decide
  have b3 : (0 : Int) ≤ 2147483647 := by decide
  have b4 : (0 : Int) ≤ 1000000 := by decide
  have b5 : (0 : Int) ≤ 0 := by decide
  have b6 : (1 : Int) ≤ 1 := by decide
  simp only [impl_PxStart.f, impl_PxOK.f, impl_isHost.f, impl_isVer.f, impl_isNumber.f, impl_within.f, if_pos h0, if_pos n1', if_pos v0, if_pos b5, if_pos b6, decide_eq_true h3, decide_eq_true n1, decide_eq_true v1, decide_eq_true b1, decide_eq_true b2, decide_eq_true b3, decide_eq_true b4, Option.bind_some, if_true, if_pos em]
theorem rd_mem {l : List Int} {i : Int} (h0 : 0 ≤ i) (h1 : i < (l.length : Int)) : rd l i ∈ l := by
  have hn : i.toNat < l.length := by omega
  simp [rd, List.getD_eq_getElem?_getD, hn]
theorem begin_keeps {l0 : List Int} {N h : Int} {ps : List S26} {bl : List S53} {k : Nat} (hI : InvL l0 N ps bl) (hl : l0.length = 4) (hnum : ∀ x ∈ l0, 0 ≤ x ∧ x ≤ 2147483647) (hN : N + 7 ≤ 1000000) (hk : 4 < k) (h0 : 0 ≤ h) (h4 : h < 4) :
    ∃ p1, rpBegin k l0 h ps bl = some p1 ∧ InvL l0 (N + 7) p1 bl ∧ 1 ≤ (rd_T26 p1 h).f2 ∧ (rd_T26 p1 h).f2 ≤ 5 ∧
      ((((rd_T26 ps h).f2 = 0 ∨ (rd_T26 ps h).f2 = 6) ∧ ∃ n, p1 = ps.set h.toNat ⟨h, 0, 1, n, rd l0 h, 0, 0, 0⟩ ∧ ∀ kk, 4 < kk → spec_l05Next.f kk h 0 bl = some n) ∨ ((rd_T26 ps h).f2 ≠ 0 ∧ (rd_T26 ps h).f2 ≠ 6 ∧ p1 = ps)) := by
  obtain ⟨hlp, hlb, hI⟩ := hI
  unfold rpBegin
  by_cases c : (rd_T26 ps h).f2 = 0 ∨ (rd_T26 ps h).f2 = 6
  · rw [if_pos c]
    obtain ⟨n, n0, n1, nm, hn⟩ := next_val (N := N) hlb (fun g g0 g4 => by have := (hI.1 g g0 g4).blk; omega) h0 h4 (by omega)
    rw [(hn k hk).1]
    have hv := hnum _ (rd_mem (l := l0) h0 (by omega))
    simp only [Option.bind_some]
    rw [start_is h0 h4 n0 (by omega) nm hv.1 hv.2]
    refine ⟨_, rfl, ⟨by simpa using hlp, hlb, ?_⟩, ?_, ?_, .inl ⟨c, n, rfl, fun kk hkk => (hn kk hkk).2⟩⟩
    · exact inv_idle hI (by omega) h0 h4 (rp_set h0 (by omega)) rfl (fun g g0 _ e => rd_T26_other _ h0 g0 e) (.inl rfl) ⟨rfl, rfl, n0, n1, nm, (show (0 : Int) ≤ 0 by decide), (show (0 : Int) ≤ 4 by decide), (show (0 : Int) ≤ 0 by decide)⟩ (rd_mem h0 (by omega)) (fun x => absurd x (show ¬ (0 : Int) < 0 by decide))
    · rw [rp_set h0 (by omega)]; exact (show (1 : Int) ≤ 1 by decide)
    · rw [rp_set h0 (by omega)]; exact (show (1 : Int) ≤ 5 by decide)
  · rw [if_neg c]
    have hne : (rd_T26 ps h).f2 ≠ 0 := fun e => c (.inl e)
    have ha := (hI.1 h h0 h4).act hne
    have h6 : (rd_T26 ps h).f2 ≠ 6 := fun e => c (.inr e)
    refine ⟨ps, rfl, ⟨hlp, hlb, fun g g0 g4 => (hI.1 g g0 g4).mono (by omega), hI.2⟩, by omega, by omega, .inr ⟨hne, h6, rfl⟩⟩
/-- The program's ballots and the reference's: alike, but that the reference's begin as broken off where the program's begin as nothing. -/
def Rel (ps qs : List S26) : Prop := qs.length = 4 ∧ ∀ g, 0 ≤ g → g < 4 → ((rd_T26 ps g).f2 = 0 ∧ (rd_T26 qs g).f2 = 6) ∨ ((rd_T26 ps g).f2 ≠ 0 ∧ rd_T26 qs g = rd_T26 ps g)
theorem Rel.set {ps qs : List S26} (hR : Rel ps qs) {h : Int} (h0 : 0 ≤ h) (h4 : h < 4) (hl : ps.length = 4) (x : S26) (hx : x.f2 ≠ 0) : Rel (ps.set h.toNat x) (qs.set h.toNat x) := by
  refine ⟨by rw [List.length_set]; exact hR.1, fun g g0 g4 => ?_⟩
  have hq := hR.1
  by_cases e : g = h
  · subst e
    rw [rp_set h0 (by omega), rp_set h0 (by omega)]
    exact .inr ⟨hx, rfl⟩
  · rw [rd_T26_other x h0 g0 e, rd_T26_other x h0 g0 e]
    exact hR.2 g g0 g4
theorem Rel.same {ps qs : List S26} (hR : Rel ps qs) {h : Int} (h0 : 0 ≤ h) (h4 : h < 4) (x : S26) (hx : x = rd_T26 ps h) (hx0 : (rd_T26 ps h).f2 ≠ 0) : Rel ps (qs.set h.toNat x) := by
  refine ⟨by rw [List.length_set]; exact hR.1, fun g g0 g4 => ?_⟩
  have hq := hR.1
  by_cases e : g = h
  · subst e
    rw [rp_set h0 (by omega), hx]
    exact .inr ⟨hx0, rfl⟩
  · rw [rd_T26_other x h0 g0 e]
    exact hR.2 g g0 g4
theorem spec_step {a0 a1 a2 a3 a4 a5 a6 a7 : Int} {l : List S53} (hl : l.length = 4) (h0 : 0 ≤ a0) (h4 : a0 < 4) (p1 : 1 ≤ a2) (p4 : a2 ≤ 4) (n0 : 0 ≤ a5) (n4 : a5 ≤ 4) {q : Int × Int × Int × Int × Int × Int × Int × Int × List S53} (e : impl_Px_step.g a0 a1 a2 a3 a4 a5 a6 a7 l = q) :
    spec_l05Step.f a0 a1 a2 a3 a4 a5 a6 a7 l = some (q.1, q.2.1, q.2.2.1, q.2.2.2.1, q.2.2.2.2.1, q.2.2.2.2.2.1, q.2.2.2.2.2.2.1, q.2.2.2.2.2.2.2.1, q.2.2.2.2.2.2.2.2, 0) := by
  unfold spec_l05Step.f
  rw [if_pos ⟨hl, h0, h4, p1, by omega, n0, n4⟩, if_neg (by omega), e]
theorem spec_done {a0 a1 a3 a4 a5 a6 a7 : Int} {l : List S53} (hl : l.length = 4) (h0 : 0 ≤ a0) (h4 : a0 < 4) (n0 : 0 ≤ a5) (n4 : a5 ≤ 4) : spec_l05Step.f a0 a1 5 a3 a4 a5 a6 a7 l = some (a0, a1, 5, a3, a4, a5, a6, a7, l, 15) := by
  unfold spec_l05Step.f
  rw [if_pos ⟨hl, h0, h4, by decide, by decide, n0, n4⟩, if_pos (by decide)]
theorem host_is (x : Int) : spec_l04Host.f x = some (decide (0 ≤ x) && decide (x ≤ 3)) := by
  unfold spec_l04Host.f
  rw [InR_eq]
  rfl
set_option maxHeartbeats 1000000 in
theorem round_same {l0 : List Int} {N h : Int} {ps qs : List S26} {bl : List S53} {k : Nat} (hI : InvL l0 N ps bl) (hR : Rel ps qs) (hl : l0.length = 4) (hnum : ∀ x ∈ l0, 0 ≤ x ∧ x ≤ 2147483647) (hN : N + 7 ≤ 1000000) (hk : 4 < k) (h0 : 0 ≤ h) (h4 : h < 4) :
    ∃ p1 p2 b2 q2, rpBegin k l0 h ps bl = some p1 ∧ rpMove h p1 bl = some (p2, b2) ∧ InvL l0 (N + 7) p2 b2 ∧ Rel p2 q2 ∧
      ∀ (kk : Nat) (l1 : List Int) (i : Int), 4 < kk → rd l1 i = h → 0 ≤ i → i < (l1.length : Int) → spec_RunPaxos.l1 (kk + 1) l0 l1 bl qs i = spec_RunPaxos.l1 kk l0 l1 b2 q2 (wrap64 (i + 1)) := by
  obtain ⟨p1, e1, hI1, hp1, hp5, hcase⟩ := begin_keeps hI hl hnum hN hk h0 h4
  have hlq := hR.1
  have hlb := hI.2.1
  have hlp := hI.1
  have hq4 : h < (qs.length : Int) := by omega
  have hl04 : h < (l0.length : Int) := by omega
  have hhost : (decide (0 ≤ h) && decide (h ≤ 3)) = true := by simp; omega
  have hR1 := hR.2 h h0 h4
  by_cases c5 : (rd_T26 p1 h).f2 = 5
  · rcases hcase with ⟨_, n, e, _⟩ | ⟨hne, h6, rfl⟩
    · rw [e, rp_set h0 (by omega)] at c5
      exact absurd c5 (show ¬ (1 : Int) = 5 by decide)
    · obtain ⟨_, eq⟩ : (rd_T26 p1 h).f2 ≠ 0 ∧ rd_T26 qs h = rd_T26 p1 h := hR1.resolve_left (fun x => hne x.1)
      have ha := (hI.2.2.1 h h0 h4).act hne
      refine ⟨p1, p1, bl, qs.set h.toNat ⟨(rd_T26 p1 h).f0, (rd_T26 p1 h).f1, (rd_T26 p1 h).f2, (rd_T26 p1 h).f3, (rd_T26 p1 h).f4, (rd_T26 p1 h).f5, (rd_T26 p1 h).f6, (rd_T26 p1 h).f7⟩, e1, by unfold rpMove; rw [if_pos (.inl c5)], hI1, hR.same h0 h4 _ rfl hne, fun kk l1 i hkk hrd i0 i1 => ?_⟩
      simp only [spec_RunPaxos.l1]
      rw [if_pos i1, if_pos i0, hrd, host_is, hhost]
      simp only [Option.bind_some, if_true]
      rw [if_pos h0, if_pos hq4, eq, if_neg h6]
      have e := spec_done (a0 := (rd_T26 p1 h).f0) (a1 := (rd_T26 p1 h).f1) (a3 := (rd_T26 p1 h).f3) (a4 := (rd_T26 p1 h).f4) (a5 := (rd_T26 p1 h).f5) (a6 := (rd_T26 p1 h).f6) (a7 := (rd_T26 p1 h).f7) hlb (by omega) (by omega) (by omega) (by omega)
      rw [← c5] at e
      rw [e]
      rfl
  · obtain ⟨q, eq1, eq2, hI2, hq0⟩ := step_keeps hI1 h0 h4 hp1 (by omega)
    have ha := (hI1.2.2.1 h h0 h4).act (by omega)
    have sp := spec_step hI1.2.1 (by omega) (by omega) hp1 (by omega) (by omega) (by omega) eq2
    have em : rpMove h p1 bl = some (p1.set h.toNat ⟨q.1, q.2.1, q.2.2.1, q.2.2.2.1, q.2.2.2.2.1, q.2.2.2.2.2.1, q.2.2.2.2.2.2.1, q.2.2.2.2.2.2.2.1⟩, q.2.2.2.2.2.2.2.2) := by
      unfold rpMove
      rw [if_neg (by omega), eq1]
      rfl
    rcases hcase with ⟨c, n, rfl, hn⟩ | ⟨hne, h6, rfl⟩
    · have hq6 : (rd_T26 qs h).f2 = 6 := by
        rcases hR1 with x | ⟨x, y⟩
        · exact x.2
        · rw [y]; exact c.resolve_left x
      rw [rp_set h0 (by omega)] at sp
      rw [List.set_set] at hI2 em
      refine ⟨_, _, _, qs.set h.toNat ⟨q.1, q.2.1, q.2.2.1, q.2.2.2.1, q.2.2.2.2.1, q.2.2.2.2.2.1, q.2.2.2.2.2.2.1, q.2.2.2.2.2.2.2.1⟩, e1, em, hI2, hR.set h0 h4 hlp _ hq0, fun kk l1 i hkk hrd i0 i1 => ?_⟩
      simp only [spec_RunPaxos.l1]
      rw [if_pos i1, if_pos i0, hrd, host_is, hhost]
      simp only [Option.bind_some, if_true]
      rw [if_pos h0, if_pos hq4, if_pos hq6, hn kk hkk]
      simp only [Option.bind_some]
      rw [if_pos hl04]
      dsimp only at sp
      rw [sp]
      simp only [Option.bind_some, List.set_set]
    · obtain ⟨_, eq⟩ : (rd_T26 p1 h).f2 ≠ 0 ∧ rd_T26 qs h = rd_T26 p1 h := hR1.resolve_left (fun x => hne x.1)
      refine ⟨_, _, _, qs.set h.toNat ⟨q.1, q.2.1, q.2.2.1, q.2.2.2.1, q.2.2.2.2.1, q.2.2.2.2.2.1, q.2.2.2.2.2.2.1, q.2.2.2.2.2.2.2.1⟩, e1, em, hI2, hR.set h0 h4 hlp _ hq0, fun kk l1 i hkk hrd i0 i1 => ?_⟩
      simp only [spec_RunPaxos.l1]
      rw [if_pos i1, if_pos i0, hrd, host_is, hhost]
      simp only [Option.bind_some, if_true]
      rw [if_pos h0, if_pos hq4, eq, if_neg h6, sp]
      simp only [Option.bind_some]
theorem run_same {l0 l1 : List Int} {k : Nat} (hk : 4 < k) (hl : l0.length = 4) (hnum : ∀ x ∈ l0, 0 ≤ x ∧ x ≤ 2147483647) (hl1 : l1.length ≤ 4096) (d : Nat) : ∀ (i : Nat) (ps qs : List S26) (bl : List S53) (N : Int) (kk : Nat), i + d = l1.length → InvL l0 N ps bl → Rel ps qs → N + 7 * (d : Int) ≤ 1000000 → d + 5 < kk →
    (¬ (∀ x ∈ l1.drop i, 0 ≤ x ∧ x < 4) → spec_RunPaxos.l1 kk l0 l1 bl qs (i : Int) = some ([], [], 4)) ∧
    ((∀ x ∈ l1.drop i, 0 ≤ x ∧ x < 4) → ∃ ps' qs' bl' N', rpRun k l0 (l1.drop i) ps bl = some (ps', bl') ∧ InvL l0 N' ps' bl' ∧ Rel ps' qs' ∧ spec_RunPaxos.l1 kk l0 l1 bl qs (i : Int) = spec_RunPaxos.l2 (kk - d - 1) bl' qs' [] 0) := by
  induction d with
  | zero =>
    intro i ps qs bl N kk hi hI hR hN hkk
    obtain ⟨kk, rfl⟩ : ∃ m, kk = m + 1 := ⟨kk - 1, by omega⟩
    rw [List.drop_eq_nil_of_le (by omega)]
    refine ⟨fun x => absurd (fun y hy => by simp at hy) x, fun _ => ⟨ps, qs, bl, N, rfl, hI, hR, ?_⟩⟩
    simp only [spec_RunPaxos.l1]
    rw [if_neg (by omega)]
    rfl
  | succ d ih =>
    intro i ps qs bl N kk hi hI hR hN hkk
    obtain ⟨kk, rfl⟩ : ∃ m, kk = m + 1 := ⟨kk - 1, by omega⟩
    have hlt : i < l1.length := by omega
    have hrd := rd_get l1 i hlt
    rw [List.drop_eq_getElem_cons hlt]
    by_cases c : 0 ≤ l1[i] ∧ l1[i] < 4
    · obtain ⟨p1, p2, b2, q2, e1, e2, hI2, hR2, hs⟩ := round_same hI hR hl hnum (by omega) hk c.1 c.2
      have hs := hs kk l1 (i : Int) (by omega) hrd (by omega) (by omega)
      rw [wrap_small hlt (by omega)] at hs
      have h2 := ih (i + 1) p2 q2 b2 (N + 7) kk (by omega) hI2 hR2 (by omega) (by omega)
      rw [hs]
      refine ⟨fun x => h2.1 (fun y => x (fun z hz => ?_)), fun x => ?_⟩
      · rcases List.mem_cons.1 hz with rfl | hz
        · exact c
        · exact y z hz
      · obtain ⟨ps', qs', bl', N', er, hI', hR', es⟩ := h2.2 (fun z hz => x z (List.mem_cons_of_mem _ hz))
        refine ⟨ps', qs', bl', N', ?_, hI', hR', ?_⟩
        · simp only [rpRun]
          rw [e1]
          simp only [Option.bind_some]
          rw [e2]
          exact er
        · rw [es]
          have : kk + 1 - (d + 1) - 1 = kk - d - 1 := by omega
          rw [this]
    · refine ⟨fun _ => ?_, fun x => absurd (x _ List.mem_cons_self) c⟩
      simp only [spec_RunPaxos.l1]
      have hf : (decide (0 ≤ l1[i]) && decide (l1[i] ≤ 3)) = false := by
        by_cases c0 : 0 ≤ l1[i]
        · have c1 : ¬ l1[i] ≤ 3 := by omega
          simp [c1]
        · simp [c0]
      rw [if_pos (by omega), if_pos (by omega), hrd, host_is, hf]
      simp
/-! the last loop, the first one, the whole -/
theorem l2_round {kk : Nat} {bl : List S53} {qs : List S26} {x : List Int} {j : Int} (h0 : 0 ≤ j) (h4 : j < 4) (hq : qs.length = 4) (hx : x.length ≤ 4) : spec_RunPaxos.l2 (kk + 1) bl qs x j = spec_RunPaxos.l2 kk bl qs (x ++ [rpOne (rd_T26 qs j)]) (wrap64 (j + 1)) := by
  simp only [spec_RunPaxos.l2, rpOne]
  rw [if_pos h4, if_pos h0, if_pos (by omega)]
  by_cases c : (rd_T26 qs j).f2 = 5
  · rw [if_pos c, if_pos c, if_pos (by omega)]
  · rw [if_neg c, if_neg c, if_pos (by omega)]
theorem l2_end {kk : Nat} {bl : List S53} {qs : List S26} {x : List Int} : spec_RunPaxos.l2 (kk + 1) bl qs x 4 = some (x, bl, 0) := by
  simp only [spec_RunPaxos.l2]
  rw [if_neg (by decide)]
theorem wr1 : wrap64 (0 + 1) = 1 := by unfold wrap64; omega
theorem wr2 : wrap64 (1 + 1) = 2 := by unfold wrap64; omega
theorem wr3 : wrap64 (2 + 1) = 3 := by unfold wrap64; omega
theorem wr4 : wrap64 (3 + 1) = 4 := by unfold wrap64; omega
theorem l2_is {kk : Nat} {bl : List S53} {ps qs : List S26} (hp : ps.length = 4) (hR : Rel ps qs) (hk : 4 < kk) : spec_RunPaxos.l2 kk bl qs [] 0 = some (ps.map rpOne, bl, 0) := by
  obtain ⟨kk, rfl⟩ : ∃ m, kk = m + 5 := ⟨kk - 5, by omega⟩
  have one : ∀ g, 0 ≤ g → g < 4 → rpOne (rd_T26 qs g) = rpOne (rd_T26 ps g) := by
    intro g g0 g4
    rcases hR.2 g g0 g4 with ⟨x, y⟩ | ⟨_, y⟩
    · unfold rpOne
      rw [if_neg (by omega), if_neg (by omega)]
    · rw [y]
  rw [l2_round (by decide) (by decide) hR.1 (by simp), wr1, l2_round (by decide) (by decide) hR.1 (by simp), wr2, l2_round (by decide) (by decide) hR.1 (by simp), wr3, l2_round (by decide) (by decide) hR.1 (by simp), wr4, l2_end, one 0 (by decide) (by decide), one 1 (by decide) (by decide), one 2 (by decide) (by decide), one 3 (by decide) (by decide)]
  match ps, hp with
  | [a, b, c, d], _ => rfl
theorem l0_round {kk : Nat} {l0 l1 : List Int} {bl : List S53} {x : List S26} {j : Int} (h0 : 0 ≤ j) (h4 : j < 4) (hl : l0.length = 4) (hx : x.length ≤ 4) : spec_RunPaxos.l0 (kk + 1) l0 l1 bl x j = spec_RunPaxos.l0 kk l0 l1 bl (x ++ [⟨j, 0, 6, 0, rd l0 j, 0, 0, 0⟩]) (wrap64 (j + 1)) := by
  simp only [spec_RunPaxos.l0]
  rw [if_pos h4, if_pos h0, if_pos (by omega), if_pos (by omega)]
def begun (l0 : List Int) : List S26 := [⟨0, 0, 6, 0, rd l0 0, 0, 0, 0⟩, ⟨1, 0, 6, 0, rd l0 1, 0, 0, 0⟩, ⟨2, 0, 6, 0, rd l0 2, 0, 0, 0⟩, ⟨3, 0, 6, 0, rd l0 3, 0, 0, 0⟩]
theorem l0_is {kk : Nat} {l0 l1 : List Int} {bl : List S53} (hl : l0.length = 4) : spec_RunPaxos.l0 (kk + 5) l0 l1 bl [] 0 = spec_RunPaxos.l1 kk l0 l1 bl (begun l0) 0 := by
  rw [l0_round (by decide) (by decide) hl (by simp), wr1, l0_round (by decide) (by decide) hl (by simp), wr2, l0_round (by decide) (by decide) hl (by simp), wr3, l0_round (by decide) (by decide) hl (by simp), wr4]
  simp only [spec_RunPaxos.l0]
  rw [if_neg (by decide)]
  rfl
theorem rd4 (P : Int → Prop) (h0 : P 0) (h1 : P 1) (h2 : P 2) (h3 : P 3) : ∀ g, 0 ≤ g → g < 4 → P g := by
  intro g g0 g4
  have : g = 0 ∨ g = 1 ∨ g = 2 ∨ g = 3 := by omega
  rcases this with rfl | rfl | rfl | rfl <;> assumption
theorem inv_begun (l0 : List Int) : InvL l0 0 (List.replicate 4 z26) (List.replicate 4 z53) := by
  refine ⟨rfl, rfl, rd4 _ ?_ ?_ ?_ ?_, fun h h0 h4 x => ?_⟩
  iterate 4 exact ⟨⟨by decide, by decide, by decide, by decide⟩, fun x => absurd x (by decide), fun x => absurd x (by decide), .inl rfl, fun x => absurd rfl x, fun x => absurd rfl x, fun x => absurd x (by decide), fun x => absurd x (by decide)⟩
  have e : (rd_T26 (List.replicate 4 z26) h).f2 = 0 := rd4 (fun g => (rd_T26 (List.replicate 4 z26) g).f2 = 0) rfl rfl rfl rfl h h0 h4
  omega
theorem rel_begun (l0 : List Int) : Rel (List.replicate 4 z26) (begun l0) := ⟨rfl, rd4 _ (.inl ⟨rfl, rfl⟩) (.inl ⟨rfl, rfl⟩) (.inl ⟨rfl, rfl⟩) (.inl ⟨rfl, rfl⟩)⟩
/-- The run: what the program and the reference come to. -/
theorem run_is (l0 l1 : List Int) (k : Nat) (hk : 5000 < k) : ∃ a b c, spec_RunPaxos.f k l0 l1 = some (a, b, c) ∧ impl_RunPaxos.f k l0 l1 = some (a, b, c) ∧ c = rpCode l0 l1 ∧ ((a = [] ∧ b = []) ∨ ∃ ps N, a = ps.map rpOne ∧ InvL l0 N ps b) := by
  obtain ⟨k, rfl⟩ : ∃ m, k = m + 7 := ⟨k - 7, by omega⟩
  unfold spec_RunPaxos.f impl_RunPaxos.f
  by_cases h0 : (l0.length : Int) > 4096
  · have hc : rpCode l0 l1 = 2 := by unfold rpCode; rw [if_pos (.inl h0)]
    rw [if_pos h0, hc, if_neg (by decide)]
    exact ⟨[], [], 2, by simp only [spec_RunPaxos.j0]; rfl, rfl, rfl, .inl ⟨rfl, rfl⟩⟩
  rw [if_neg h0]
  by_cases h1 : (l1.length : Int) > 4096
  · have hc : rpCode l0 l1 = 2 := by unfold rpCode; rw [if_pos (.inr h1)]
    rw [decide_eq_true h1, hc, if_neg (by decide)]
    exact ⟨[], [], 2, by simp only [spec_RunPaxos.j0]; rfl, rfl, rfl, .inl ⟨rfl, rfl⟩⟩
  rw [decide_eq_false h1]
  simp only [spec_RunPaxos.j0, Bool.false_eq_true, if_false]
  by_cases h4 : (l0.length : Int) = 4
  rotate_left
  · have hc : rpCode l0 l1 = 1 := by unfold rpCode; rw [if_neg (by omega), if_neg (fun x => h4 x.1)]
    rw [if_neg h4, hc, if_neg (by decide)]
    exact ⟨[], [], 1, by simp only [spec_RunPaxos.j1]; rfl, rfl, rfl, .inl ⟨rfl, rfl⟩⟩
  have hl : l0.length = 4 := by omega
  rw [if_pos h4, spec_ints l0 (k + 6) (by omega) (by omega)]
  simp only [Option.bind_some]
  have hB : intsB l0 = l0.all fn_isNumber.p := by
    unfold intsB
    rw [decide_eq_true (by omega)]
    rfl
  rw [hB]
  cases hall : l0.all fn_isNumber.p with
  | false =>
    have hc : rpCode l0 l1 = 1 := by unfold rpCode; rw [if_neg (by omega), if_neg (fun x => by rw [hall] at x; exact absurd x.2 (by decide))]
    rw [hc, if_neg (by decide)]
    exact ⟨[], [], 1, by simp only [spec_RunPaxos.j1]; rfl, rfl, rfl, .inl ⟨rfl, rfl⟩⟩
  | true =>
    have hnum : ∀ x ∈ l0, 0 ≤ x ∧ x ≤ 2147483647 := by
      intro x hx
      have := List.all_eq_true.1 hall x hx
      simpa [fn_isNumber] using this
    simp only [spec_RunPaxos.j1, Bool.not_true, Bool.false_eq_true, if_false]
    rw [l0_is hl]
    have hr := run_same (k := k + 7) (by omega) hl hnum (by omega : l1.length ≤ 4096) l1.length 0 (List.replicate 4 z26) (begun l0) (List.replicate 4 z53) 0 k (by omega) (inv_begun l0) (rel_begun l0) (by omega) (by omega)
    rw [List.drop_zero] at hr
    by_cases hh : ∀ x ∈ l1, 0 ≤ x ∧ x < 4
    · have ha : l1.all fn_isHost.p = true := by
        rw [List.all_eq_true]
        intro x hx
        have := hh x hx
        simp [fn_isHost]
        omega
      have hc : rpCode l0 l1 = 0 := by unfold rpCode; rw [if_neg (by omega), if_pos ⟨h4, hall⟩, ha]; rfl
      obtain ⟨ps, qs, bl, N, er, hI, hR, es⟩ := hr.2 hh
      rw [hc, if_pos rfl, er]
      exact ⟨ps.map rpOne, bl, 0, es.trans (l2_is hI.1 hR (by omega)), rfl, rfl, .inr ⟨ps, N, rfl, hI⟩⟩
    · have ha : ¬ l1.all fn_isHost.p = true := by
        intro x
        apply hh
        intro y hy
        have := List.all_eq_true.1 x y hy
        simp [fn_isHost] at this
        omega
      have hc : rpCode l0 l1 = 4 := by unfold rpCode; rw [if_neg (by omega), if_pos ⟨h4, hall⟩, if_neg ha]
      rw [hc, if_neg (by decide)]
      exact ⟨[], [], 4, hr.1 hh, rfl, rfl, .inl ⟨rfl, rfl⟩⟩
end Go.Proofs.Ytlclbdfcniiolaa.Pure
