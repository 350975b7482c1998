/- Disks in the laws, as plain functions: copying and comparing; for disks of at most 2^40 sectors and writes. -/
import Derived.Test.YtpgiklbaoikogaaQ1
import Derived.Test.YtpgiklbaoikogaaRd
set_option linter.unusedSimpArgs false
set_option linter.unusedVariables false
namespace Go.Proofs.Ytpgiklbaoikogaa.Pure
open Go.RowKit Go.Proofs.Ytpgiklbaoikogaa.Q Go.Proofs.Ytpgiklbaoikogaa.Hand Go.Proofs.YtpgiklbaoikogaaW.PrintWords Go.Proofs.YtpgiklbaoikogaaW.PrintLast Go.Proofs.YtpgiklbaoikogaaW.PrintMore

def toO (x : S109) : S84 := ⟨x.f0, x.f1, x.f2⟩
theorem rds_get (l : List ByteArray) (i : Nat) (h : i < l.length) : rdOf ByteArray.empty l (i : Int) = l[i] := by
  simp [rdOf, List.getD_eq_getElem?_getD, List.getElem?_eq_getElem h]
theorem rdl_get (l : List S109) (i : Nat) (h : i < l.length) : rd_T109 l (i : Int) = l[i] := by
  simp [rd_T109, List.getD_eq_getElem?_getD, List.getElem?_eq_getElem h]
theorem rdi_get (l : List S84) (i : Nat) (h : i < l.length) : rd_T84 l (i : Int) = l[i] := by
  simp [rd_T84, List.getD_eq_getElem?_getD, List.getElem?_eq_getElem h]

theorem toStringS_loop (l : List ByteArray) (hn : l.length ≤ 8796093022208) (d : Nat) : ∀ (k i : Nat) (x : List ByteArray), i ≤ l.length → l.length - i = d → d < k → x.length = l.length → (∀ j, j < i → x[j]? = (l)[j]?) → laws_toStringS.l0 k l x (i : Int) = some (l) := by
  induction d with
  | zero =>
    intro k i x hi hd hk hx hj
    obtain ⟨k, rfl⟩ : ∃ m, k = m + 1 := ⟨k - 1, by omega⟩
    have c : ¬ (i : Int) < (l.length : Int) := by omega
    simp only [laws_toStringS.l0, if_neg c]
    have : x = l := List.ext_getElem? (fun j => by
      by_cases h : j < i
      · exact hj j h
      · rw [List.getElem?_eq_none (by omega), List.getElem?_eq_none (by omega)])
    rw [this]
  | succ d ih =>
    intro k i x hi hd hk hx hj
    obtain ⟨k, rfl⟩ : ∃ m, k = m + 1 := ⟨k - 1, by omega⟩
    have hlt : i < l.length := by omega
    have c : (i : Int) < (l.length : Int) := by omega
    have c0 : (0 : Int) ≤ (i : Int) := by omega
    have c1 : (i : Int) < (x.length : Int) := by omega
    simp only [laws_toStringS.l0, Option.bind_some, if_pos c, if_pos c0, if_pos c1]
    rw [wrap_small hlt (by omega), rds_get l i hlt]
    apply ih k (i + 1) _ (by omega) (by omega) (by omega) (by simpa using hx)
    intro j hj'
    have e2 : ((i : Int)).toNat = i := by omega
    rw [e2, List.getElem?_set]
    by_cases h : i = j
    · subst h
      rw [if_pos rfl, if_pos (by omega)]
      simp [hlt]
    · rw [if_neg h]
      exact hj j (by omega)
theorem toStringS_eq (l : List ByteArray) (k : Nat) (hn : l.length ≤ 8796093022208) (hk : l.length < k) : laws_toStringS.f k l = some (l) := by
  unfold laws_toStringS.f
  have e : ((l.length : Int) : Int).toNat = l.length := by omega
  rw [if_pos (by omega), e, if_pos (by omega)]
  exact toStringS_loop l hn l.length k 0 _ (by omega) (by omega) hk (by simp) (fun j hj => absurd hj (Nat.not_lt_zero _))

theorem toIoS_loop (l : List S109) (hn : l.length ≤ 8796093022208) (d : Nat) : ∀ (k i : Nat) (x : List S84), i ≤ l.length → l.length - i = d → d < k → x.length = l.length → (∀ j, j < i → x[j]? = (l.map toO)[j]?) → laws_toIoS.l0 k l x (i : Int) = some (l.map toO) := by
  induction d with
  | zero =>
    intro k i x hi hd hk hx hj
    obtain ⟨k, rfl⟩ : ∃ m, k = m + 1 := ⟨k - 1, by omega⟩
    have c : ¬ (i : Int) < (l.length : Int) := by omega
    simp only [laws_toIoS.l0, if_neg c]
    have : x = l.map toO := List.ext_getElem? (fun j => by
      by_cases h : j < i
      · exact hj j h
      · rw [List.getElem?_eq_none (by omega), List.getElem?_eq_none (by simp; omega)])
    rw [this]
  | succ d ih =>
    intro k i x hi hd hk hx hj
    obtain ⟨k, rfl⟩ : ∃ m, k = m + 1 := ⟨k - 1, by omega⟩
    have hlt : i < l.length := by omega
    have c : (i : Int) < (l.length : Int) := by omega
    have c0 : (0 : Int) ≤ (i : Int) := by omega
    have c1 : (i : Int) < (x.length : Int) := by omega
    simp only [laws_toIoS.l0, laws_toIo.f, Option.bind_some, if_pos c, if_pos c0, if_pos c1]
    rw [wrap_small hlt (by omega), rdl_get l i hlt]
    apply ih k (i + 1) _ (by omega) (by omega) (by omega) (by simpa using hx)
    intro j hj'
    have e2 : ((i : Int)).toNat = i := by omega
    rw [e2, List.getElem?_set]
    by_cases h : i = j
    · subst h
      rw [if_pos rfl, if_pos (by omega)]
      simp [hlt, toO]
    · rw [if_neg h]
      exact hj j (by omega)
theorem toIoS_eq (l : List S109) (k : Nat) (hn : l.length ≤ 8796093022208) (hk : l.length < k) : laws_toIoS.f k l = some (l.map toO) := by
  unfold laws_toIoS.f
  have e : ((l.length : Int) : Int).toNat = l.length := by omega
  rw [if_pos (by omega), e, if_pos (by omega)]
  exact toIoS_loop l hn l.length k 0 _ (by omega) (by omega) hk (by simp) (fun j hj => absurd hj (Nat.not_lt_zero _))

theorem eqStringS_loop (a : List ByteArray) (hn : a.length ≤ 8796093022208) (d : Nat) : ∀ (k i : Nat), i ≤ a.length → a.length - i = d → d < k → laws_eqStringS.l0 k a a (i : Int) = some true := by
  induction d with
  | zero =>
    intro k i hi hd hk
    obtain ⟨k, rfl⟩ : ∃ m, k = m + 1 := ⟨k - 1, by omega⟩
    have c : ¬ (i : Int) < (a.length : Int) := by omega
    simp only [laws_eqStringS.l0, if_neg c]
  | succ d ih =>
    intro k i hi hd hk
    obtain ⟨k, rfl⟩ : ∃ m, k = m + 1 := ⟨k - 1, by omega⟩
    have hlt : i < a.length := by omega
    have c : (i : Int) < (a.length : Int) := by omega
    have c0 : (0 : Int) ≤ (i : Int) := by omega
    simp only [laws_eqStringS.l0, if_pos c, if_pos c0, if_true, Option.bind_some]
    rw [wrap_small hlt (by omega)]
    exact ih k (i + 1) (by omega) (by omega) (by omega)
theorem eqStringS_self (a : List ByteArray) (k : Nat) (hn : a.length ≤ 8796093022208) (hk : a.length < k) : laws_eqStringS.f k a a = some true := by
  unfold laws_eqStringS.f
  rw [if_pos rfl]
  exact eqStringS_loop a hn a.length k 0 (by omega) (by omega) hk

theorem eqIoS_loop (a : List S84) (hn : a.length ≤ 8796093022208) (d : Nat) : ∀ (k i : Nat), i ≤ a.length → a.length - i = d → d < k → laws_eqIoS.l0 k a a (i : Int) = some true := by
  induction d with
  | zero =>
    intro k i hi hd hk
    obtain ⟨k, rfl⟩ : ∃ m, k = m + 1 := ⟨k - 1, by omega⟩
    have c : ¬ (i : Int) < (a.length : Int) := by omega
    simp only [laws_eqIoS.l0, if_neg c]
  | succ d ih =>
    intro k i hi hd hk
    obtain ⟨k, rfl⟩ : ∃ m, k = m + 1 := ⟨k - 1, by omega⟩
    have hlt : i < a.length := by omega
    have c : (i : Int) < (a.length : Int) := by omega
    have c0 : (0 : Int) ≤ (i : Int) := by omega
    simp only [laws_eqIoS.l0, if_pos c, if_pos c0, laws_eqIo.f, if_true, Option.bind_some]
    rw [wrap_small hlt (by omega)]
    exact ih k (i + 1) (by omega) (by omega) (by omega)
theorem eqIoS_self (a : List S84) (k : Nat) (hn : a.length ≤ 8796093022208) (hk : a.length < k) : laws_eqIoS.f k a a = some true := by
  unfold laws_eqIoS.f
  rw [if_pos rfl]
  exact eqIoS_loop a hn a.length k 0 (by omega) (by omega) hk

theorem toDisk_eq (s : List ByteArray) (p : List S109) (k : Nat) (h1 : s.length ≤ 1048576) (h2 : p.length ≤ 1048576) (hk : 1048576 < k) : laws_toDisk.f k s p = some (s, p.map toO) := by
  unfold laws_toDisk.f
  rw [toStringS_eq s k (by omega) (by omega), toIoS_eq p k (by omega) (by omega)]
  rfl
theorem eqDisk_self (s : List ByteArray) (p : List S84) (k : Nat) (h1 : s.length ≤ 1048576) (h2 : p.length ≤ 1048576) (hk : 1048576 < k) : laws_eqDisk.f k s p s p = some true := by
  unfold laws_eqDisk.f
  rw [eqStringS_self s k (by omega) (by omega), eqIoS_self p k (by omega) (by omega)]
  rfl
end Go.Proofs.Ytpgiklbaoikogaa.Pure
