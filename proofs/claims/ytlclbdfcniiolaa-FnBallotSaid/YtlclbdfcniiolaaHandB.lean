/- The reference's source of choices: what one byte of it is; for every code of bytes, every place up to 2^40 and every seed below 2^31 (elsewhere the function here tells nothing). -/
import Derived.Test.YtlclbdfcniiolaaQ0
import Derived.Deep.QuietTactic
import Derived.BigQuiet
import Derived.StillTailTactics
namespace Go.Proofs.Ytlclbdfcniiolaa.Hand
open Go.RowKit Go.Proofs.YtlclbdfcniiolaaW.PrintWords Go.Proofs.YtlclbdfcniiolaaW.PrintLast Go.Proofs.YtlclbdfcniiolaaW.PrintMore Go.Proofs.Ytlclbdfcniiolaa.Q
set_option linter.unusedVariables false
set_option linter.unusedSimpArgs false

/-- A source that is right: its code's bytes, its place and its seed lie within bounds. -/
def Src (l : List Int) (a s : Int) : Prop := 0 ≤ a ∧ a ≤ 1099511627776 ∧ 0 ≤ s ∧ s < 2147483648 ∧ ∀ x ∈ l, 0 ≤ x ∧ x ≤ 255
instance (l : List Int) (a s : Int) : Decidable (Src l a s) := by unfold Src; exact inferInstance
def spec_l00Src_byte.f (l : List Int) (a s : Int) : Option (Int × Int × Int) :=
  if Src l a s then
    (if a < (l.length : Int) then some (rd l a, a + 1, (s * 31 + rd l a + 7) % 2147483648)
     else if a + 1 > 3000 then some (0, a + 1, s)
     else some ((s * 1103515245 + 12345) % 2147483648 / 65536 % 256, a + 1, (s * 1103515245 + 12345) % 2147483648))
  else none
set_option maxHeartbeats 2000000 in
set_option maxRecDepth 100000 in
theorem spec_l00Src_byte.calls (g : Nat) (s0_0 : List Int) (s0_1 : Int) (s0_2 : Int) (r1 : Int) (r2 : Int) (r3 : Int) (w0 w : World) (hI : IsS87 w0 w g s0_0 s0_1 s0_2) (hB : Below w0.heap.size w0 w) (h : spec_l00Src_byte.f s0_0 s0_1 s0_2 = some (r1, r2, r3)) :
    Calls Try.prog 76 #[.pointer (some ⟨g, 0, none⟩)] w fun e w' => e = .returned (.int .i64 r1) ∧ IsS87 w0 w' g s0_0 r2 r3 ∧ Below w0.heap.size w0 w' ∧ KeepBut w w' g none := by
  unfold spec_l00Src_byte.f at h
  by_cases hs : Src s0_0 s0_1 s0_2
  rotate_left
  · rw [if_neg hs] at h; cases h
  rw [if_pos hs] at h
  obtain ⟨h0, h1, h2, h3, h4⟩ := hs
  have HI := Aside0.mk hI
  obtain ⟨A0, c0, HG, hg, HS0⟩ := hI
  have hc0 := cellS87_0 HG
  have hc1 := cellS87_1 HG
  have hc2 := cellS87_2 HG
  have hf1 := blk_frozen HG 1
  have hf2 := blk_frozen HG 2
  clear HG
  have HBA := Aside0.mk hB
  have HSA := Aside0.mk HS0
  clear hB HS0
  by_cases hlt : s0_1 < (s0_0.length : Int)
  · rw [if_pos hlt] at h
    simp only [Option.some.injEq, Prod.mk.injEq] at h
    obtain ⟨rfl, rfl, rfl⟩ := h
    obtain ⟨ad, e, hx0⟩ := Kd.at_int HSA.out s0_1 h0 hlt
    have hbl := World.block_lt_of_cell? w0 (ad.add s0_1.toNat) hx0
    have hne : (ad.add s0_1.toNat).block ≠ g := by omega
    have hx := HBA.out.cell (p := ad.add s0_1.toNat) hbl
    rw [hx0] at hx
    cases e
    have hrm : rd s0_0 s0_1 ∈ s0_0 := by
      unfold rd
      rw [List.getD_eq_getElem?_getD, List.getElem?_eq_getElem (by omega : s0_1.toNat < s0_0.length)]
      exact List.getElem_mem _
    have hr := h4 _ hrm
    have hr0 := hr.1
    have hr1 := hr.2
    clear hr hrm h4
    obtain ⟨x, hxx⟩ : ∃ x, rd s0_0 s0_1 = x := ⟨_, rfl⟩
    rw [hxx] at hr0 hr1 hx hx0
    simp only [hxx]
    have HX := Aside0.mk hxx
    clear hxx
    have hle : s0_1 + 1 ≤ (s0_0.length : Int) := by omega
    have hcm := HSA.out.2.1
    have e1 : decide (s0_1 + 1 ≤ (s0_0.length : Int)) = true := decide_eq_true hle
    go_enter Try.func76, Try.ntmps76
    go_wp2
    go_quiet (fail)
    go_wp2
    obtain ⟨W1, hW1⟩ : ∃ W1 : World, (w.setCell ⟨g, 1, none⟩ (.int .i64 (s0_1 + 1))).drewN nq = W1 := ⟨_, rfl⟩
    rw [hW1]
    have HI1 := Aside0.mk (show IsS87 w0 W1 g s0_0 (s0_1 + 1) s0_2 by rw [← hW1]; exact IsS87.drewN (IsS87.set_1 HI.out _) nq)
    have HB1 := Aside0.mk (show Below w0.heap.size w0 W1 by rw [← hW1]; repeat (first | exact HBA.out | apply pw_below_drewN | apply below_drew1 | refine below_set ?_ hg))
    have HK1 := Aside0.mk (show KeepBut w W1 g none by rw [← hW1]; repeat (first | exact KeepBut.refl _ _ _ | apply KeepBut.set_ | apply keep_drewN | apply keep_drew))
    have hy := HB1.out.cell (p := ad.add s0_1.toNat) hbl
    rw [hx0] at hy
    clear hc0 hc1 hc2 hf1 hf2 hx hW1 hx0
    obtain ⟨A1, c1, HG1, _, HS1⟩ := HI1.out
    have hd0 := cellS87_0 HG1
    have hd1 := cellS87_1 HG1
    have hd2 := cellS87_2 HG1
    have hg2 := blk_frozen HG1 2
    clear HG1
    obtain ⟨ad1, e', hz0⟩ := Kd.at_int HS1 s0_1 h0 hlt
    have hz := HB1.out.cell (p := ad1.add s0_1.toNat) (World.block_lt_of_cell? w0 (ad1.add s0_1.toNat) hz0)
    rw [hz0] at hz
    have hn1 : (ad1.add s0_1.toNat).block ≠ g := by have := World.block_lt_of_cell? w0 (ad1.add s0_1.toNat) hz0; omega
    cases e'
    clear hz0 HS1 hy
    rw [HX.out] at hz
    have k1 : IntKind.i64.wrap s0_1 = s0_1 := IntWalk.i64_in _ (by omega)
    have k2 : IntKind.i64.wrap x = x := IntWalk.i64_in _ (by omega)
    have k3 : IntKind.i64.wrap (s0_2 * 31) = s0_2 * 31 := IntWalk.i64_in _ (by omega)
    have k4 : IntKind.i64.wrap (s0_2 * 31 + x) = s0_2 * 31 + x := IntWalk.i64_in _ (by omega)
    have k5 : IntKind.i64.wrap (s0_2 * 31 + x + 7) = s0_2 * 31 + x + 7 := IntWalk.i64_in _ (by omega)
    have k6 : Int.tmod (s0_2 * 31 + x + 7) 2147483648 = (s0_2 * 31 + x + 7) % 2147483648 := Int.tmod_eq_emod_of_nonneg (by omega)
    have k7 := Int.emod_nonneg (s0_2 * 31 + x + 7) (show (2147483648 : Int) ≠ 0 by omega)
    have k8 := Int.emod_lt_of_pos (s0_2 * 31 + x + 7) (show (0 : Int) < 2147483648 by omega)
    have k9 : IntKind.i64.wrap ((s0_2 * 31 + x + 7) % 2147483648) = (s0_2 * 31 + x + 7) % 2147483648 := IntWalk.i64_in _ (by omega)
    clear k7 k8
    go_still_tail 23, (by kernel_rfl)
    change wpList _ _ _ _ _ W1.drew
    clear k3 k4 k5 k6 k9
    go_wp2
    obtain ⟨W2, hW2⟩ : ∃ W2 : World, (W1.setCell ⟨g, 2, none⟩ (.int .i64 ((s0_2 * 31 + x + 7) % 2147483648))).drew = W2 := ⟨_, rfl⟩
    rw [hW2]
    have HI2 := Aside0.mk (show IsS87 w0 W2 g s0_0 (s0_1 + 1) ((s0_2 * 31 + x + 7) % 2147483648) by rw [← hW2]; exact IsS87.drew (IsS87.set_2 HI1.out _))
    have HB2 := Aside0.mk (show Below w0.heap.size w0 W2 by rw [← hW2]; repeat (first | exact HB1.out | apply pw_below_drewN | apply below_drew1 | refine below_set ?_ hg))
    have HK2 := Aside0.mk (show KeepBut w W2 g none by rw [← hW2]; repeat (first | exact HK1.out | apply KeepBut.set_ | apply keep_drewN | apply keep_drew))
    clear hd0 hd1 hd2 hg2 hz hW2
    obtain ⟨A2, c2, HG2, _, HS2⟩ := HI2.out
    obtain ⟨ad2, e', hz0⟩ := Kd.at_int HS2 s0_1 h0 hlt
    have hz := HB2.out.cell (p := ad2.add s0_1.toNat) (World.block_lt_of_cell? w0 (ad2.add s0_1.toNat) hz0)
    rw [hz0, HX.out] at hz
    cases e'
    have hd0 := cellS87_0 HG2
    have hd1 := cellS87_1 HG2
    clear HG2 hz0 HS2
    go_quiet (fail)
    go_wp2
    go_ret
    exact ⟨rfl, by repeat (first | exact HI2.out | apply IsS87.drewN | apply IsS87.drew), by repeat (first | exact HB2.out | apply pw_below_drewN | apply below_drew1), by repeat (first | exact HK2.out | apply keep_drewN | apply keep_drew)⟩
  · rw [if_neg hlt] at h
    have e1 : decide (s0_1 + 1 ≤ (s0_0.length : Int)) = false := decide_eq_false (by omega)
    by_cases h3k : s0_1 + 1 > 3000
    · rw [if_pos h3k] at h
      simp only [Option.some.injEq, Prod.mk.injEq] at h
      obtain ⟨rfl, rfl, rfl⟩ := h
      go_enter Try.func76, Try.ntmps76
      go_wp2
      go_quiet (fail)
      go_wp2
      go_ret
      exact ⟨rfl, by repeat (first | exact HI.out | apply IsS87.drewN | apply IsS87.drew | apply IsS87.set_1 | apply IsS87.set_2), by repeat (first | exact HBA.out | apply pw_below_drewN | apply below_drew1 | refine below_set ?_ hg), by repeat (first | exact KeepBut.refl _ _ _ | apply KeepBut.set_ | apply keep_drewN | apply keep_drew)⟩
    · rw [if_neg h3k] at h
      simp only [Option.some.injEq, Prod.mk.injEq] at h
      obtain ⟨rfl, rfl, rfl⟩ := h
      go_enter Try.func76, Try.ntmps76
      go_wp2
      go_quiet (fail)
      go_wp2
      go_ret
      exact ⟨rfl, by repeat (first | exact HI.out | apply IsS87.drewN | apply IsS87.drew | apply IsS87.set_1 | apply IsS87.set_2), by repeat (first | exact HBA.out | apply pw_below_drewN | apply below_drew1 | refine below_set ?_ hg), by repeat (first | exact KeepBut.refl _ _ _ | apply KeepBut.set_ | apply keep_drewN | apply keep_drew)⟩
end Go.Proofs.Ytlclbdfcniiolaa.Hand
