/- The program's ReadSector and the reference's give the same for every disk that the law's own guard lets pass, every host and place. -/
import Derived.Test.YtpgiklbaoikogaaQ2
import Derived.Test.YtpgiklbaoikogaaDiskSz
import Derived.Test.YtpgiklbaoikogaaDiskOK
import Derived.Test.YtpgiklbaoikogaaFirsts
import Derived.Test.YtpgiklbaoikogaaHandRd
set_option linter.unusedSimpArgs false
set_option linter.unusedVariables false
namespace Go.Proofs.Ytpgiklbaoikogaa.Pure
open Go.RowKit Go.Proofs.Ytpgiklbaoikogaa.Q Go.Proofs.Ytpgiklbaoikogaa.Hand Go.Proofs.YtpgiklbaoikogaaW.PrintWords Go.Proofs.YtpgiklbaoikogaaW.PrintLast Go.Proofs.YtpgiklbaoikogaaW.PrintMore

theorem back_drop (p : List S84) (j : Nat) (hj : j < p.length) : (back p p.length).drop j = ((p.length : Int) - 1 - (j : Int), rd_T84 p ((p.length : Int) - 1 - (j : Int))) :: (back p p.length).drop (j + 1) := by
  have hl : (back p p.length).length = p.length := back_length p p.length
  rw [List.drop_eq_getElem_cons (by omega)]
  congr 1
  simp only [back, List.getElem_map, List.getElem_range]
def readB (h a : Int) (s : List ByteArray) (l : List (Int × S84)) : Option ByteArray :=
  match l.find? (isAt h a) with
  | some q => some q.2.f2
  | none => if 0 ≤ a ∧ a < (s.length : Int) then some (rdOf ByteArray.empty s a) else none
theorem read_loop (h a : Int) (s : List ByteArray) (p : List S84) (hp : p.length ≤ 1048576) (d : Nat) : ∀ (k j : Nat), j + d = p.length → d < k → spec_l01Read.l0 k h a ((p.length : Int) - 1 - (j : Int)) s p = readB h a s ((back p p.length).drop j) := by
  induction d with
  | zero =>
    intro k j hj hk
    obtain ⟨k, rfl⟩ : ∃ m, k = m + 1 := ⟨k - 1, by omega⟩
    have c : ¬ (p.length : Int) - 1 - (j : Int) ≥ 0 := by omega
    have hl : (back p p.length).length = p.length := back_length p p.length
    simp only [spec_l01Read.l0, if_neg c]
    rw [List.drop_eq_nil_of_le (by omega)]
    simp only [readB, List.find?_nil]
    by_cases h1 : 0 ≤ a
    · by_cases h2 : a < (s.length : Int)
      · rw [if_pos h1, if_pos h2, if_pos ⟨h1, h2⟩]
      · rw [if_pos h1, if_neg h2, if_neg (fun h => h2 h.2)]
    · rw [if_neg h1, if_neg (fun h => h1 h.1)]
  | succ d ih =>
    intro k j hj hk
    obtain ⟨k, rfl⟩ : ∃ m, k = m + 1 := ⟨k - 1, by omega⟩
    have w : wrap64 ((p.length : Int) - 1 - (j : Int) - 1) = (p.length : Int) - 1 - ((j + 1 : Nat) : Int) := by unfold wrap64; omega
    have c : (p.length : Int) - 1 - (j : Int) ≥ 0 := by omega
    have c0 : 0 ≤ (p.length : Int) - 1 - (j : Int) := by omega
    have c1 : (p.length : Int) - 1 - (j : Int) < (p.length : Int) := by omega
    have hi := ih k (j + 1) (by omega) (by omega)
    simp only [spec_l01Read.l0, if_pos c, if_pos c0, if_pos c1, w]
    rw [hi, back_drop p j (by omega)]
    generalize rd_T84 p ((p.length : Int) - 1 - (j : Int)) = x
    simp only [readB, List.find?_cons]
    by_cases e1 : x.f0 = h
    · by_cases e2 : x.f1 = a
      · have hx : isAt h a ((p.length : Int) - 1 - (j : Int), x) = true := by unfold isAt; rw [e1, e2]; simp
        rw [if_pos e1, if_pos e2, hx]
      · have hx : isAt h a ((p.length : Int) - 1 - (j : Int), x) = false := by unfold isAt; simp [e2]
        rw [if_pos e1, if_neg e2, hx]
    · have hx : isAt h a ((p.length : Int) - 1 - (j : Int), x) = false := by unfold isAt; simp [e1]
      rw [if_neg e1, hx]
theorem read_spec (h a : Int) (s : List ByteArray) (p : List S84) (hp : p.length ≤ 1048576) (k : Nat) (hk : p.length < k) : spec_l01Read.f k s p h a = impl_Disk_read.f s p h a := by
  have w : wrap64 ((p.length : Int) - 1) = (p.length : Int) - 1 - ((0 : Nat) : Int) := by unfold wrap64; omega
  unfold spec_l01Read.f
  rw [w, read_loop h a s p hp p.length k 0 (by omega) hk]
  rfl
theorem read_some (h a : Int) (s : List ByteArray) (p : List S84) (h0 : 0 ≤ a) (h1 : a < (s.length : Int)) : ∃ r, impl_Disk_read.f s p h a = some r := by
  unfold impl_Disk_read.f
  split
  · exact ⟨_, rfl⟩
  · rw [if_pos ⟨h0, h1⟩]; exact ⟨_, rfl⟩
theorem sector_same (s : List ByteArray) (p : List S84) (h a : Int) (hs : s.length ≤ 1048576) (hp : p.length ≤ 1048576) (k : Nat) (hk : 2200000 < k) : ∃ r, spec_ReadSector.f k s p h a = some r ∧ impl_ReadSector.f s p h a = some r := by
  have hv : ∀ a b c, impl_within.f a b c = spec_l01In.f a b c := fun _ _ _ => rfl
  unfold spec_ReadSector.f impl_ReadSector.f spec_l01Ask.f impl_isHost.f impl_isPlace.f
  simp only [spec_disk s p hs hp k hk, impl_disk, hv, InR_eq, Option.bind_some, firsts3, read_spec h a s p hp k (by omega)]
  cases hd : diskB s p with
  | false => exact ⟨(⟨#[]⟩, 1), by simp, by simp⟩
  | true =>
    cases hq : (decide (0 ≤ h) && decide (h ≤ 3)) with
    | false => exact ⟨(⟨#[]⟩, 4), by simp, by simp⟩
    | true =>
      cases hp' : (decide (0 ≤ a) && decide (a ≤ 63)) with
      | false => exact ⟨(⟨#[]⟩, 14), by simp, by simp⟩
      | true =>
        have h64 : s.length = 64 := by
          unfold diskB at hd
          simp only [Bool.and_eq_true, decide_eq_true_eq] at hd
          exact hd.1
        simp only [Bool.and_eq_true, decide_eq_true_eq] at hp'
        obtain ⟨r, e⟩ := read_some h a s p hp'.1 (by omega)
        exact ⟨(r, 0), by simp [e], by simp [e]⟩
theorem FnExactReadSector (l0_0 : List ByteArray) (l0_1 : List S109) (a1 a2 : Int) (m0 : l0_0.length ≤ maxLen) (h0 : ∀ x ∈ l0_0, (fun x : ByteArray => x.size ≤ maxLen) x) (m1 : l0_1.length ≤ maxLen) (h1 : ∀ x ∈ l0_1, (fun x : S109 => (Lit.int .i64 x.f0).wf = true ∧ (Lit.int .i64 x.f1).wf = true ∧ x.f2.size ≤ maxLen) x) (_ : (Lit.int .i64 a1).wf = true) (_ : (Lit.int .i64 a2).wf = true) : ∃ k, laws_FnExactReadSector.f k l0_0 l0_1 a1 a2 = some true := by
  refine ⟨2500000 + 1, ?_⟩
  obtain ⟨r, e, hr⟩ := szDisk_is l0_0 l0_1 h0 (fun x hx => (h1 x hx).2.2) m0 m1 (2500000 + 1) (by omega)
  unfold laws_FnExactReadSector.f
  rw [e]
  simp only [Option.bind_some]
  by_cases h : r < 0
  · rw [if_pos h]
  · obtain ⟨n0, n1⟩ := hr (by omega)
    have n1' : (l0_1.map toO).length ≤ 1048576 := by rw [List.length_map]; exact n1
    obtain ⟨q, e1, e2⟩ := sector_same l0_0 (l0_1.map toO) a1 a2 n0 n1' (2500000 + 1) (by omega)
    rw [if_neg h]
    simp only [Option.bind_some, toDisk_eq l0_0 l0_1 (2500000 + 1) n0 n1 (by omega), e1, e2, if_true, laws_FnExactReadSector.j0, bne_self_eq_false, Bool.false_eq_true, if_false, toDisk_eq l0_0 l0_1 2500000 n0 n1 (by omega), eqDisk_self l0_0 (l0_1.map toO) 2500000 n0 n1' (by omega)]
end Go.Proofs.Ytpgiklbaoikogaa.Pure
