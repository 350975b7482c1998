/- The program's 'first' over a list of values of any: its contract, for every list; no condition. -/
import Derived.Test.YtlclbdfcniiolaaProg
import Derived.Test.YtlclbdfcniiolaaWWords
import Derived.Test.YtlclbdfcniiolaaWLast
import Derived.Test.YtlclbdfcniiolaaWTab
import Derived.Test.YtlclbdfcniiolaaWQPut
import Derived.Test.YtlclbdfcniiolaaWApart
import Derived.Test.YtlclbdfcniiolaaWArr
import Derived.Test.YtlclbdfcniiolaaWZeros
import Derived.Test.YtlclbdfcniiolaaWFoot
import Derived.Test.YtlclbdfcniiolaaWKept
import Derived.Test.YtlclbdfcniiolaaWShare
import Derived.Test.YtlclbdfcniiolaaWN
import Derived.Test.YtlclbdfcniiolaaWEqStruct
import Derived.Test.YtlclbdfcniiolaaWRepsOne
import Derived.Test.YtlclbdfcniiolaaWNEv
import Derived.Test.YtlclbdfcniiolaaWMore
namespace Go.Proofs.Ytlclbdfcniiolaa.Hand
open Go.RowKit Go.Proofs.YtlclbdfcniiolaaW.PrintWords Go.Proofs.YtlclbdfcniiolaaW.PrintLast Go.Proofs.YtlclbdfcniiolaaW.PrintMore
set_option linter.unusedVariables false
set_option linter.unusedSimpArgs false

/-- A value of type any that is nil, a bool, or an int. -/
inductive AnyV where
  | nil
  | b (x : Bool)
  | i (x : Int)
def AnyV.enc : AnyV → Value
  | .nil => .nilIface
  | .b x => .iface 4 (.bool x)
  | .i x => .iface 3 (.int .i64 x)
def AnyV.asBool : AnyV → Bool
  | .b x => x
  | _ => false
def AnyV.isBool : AnyV → Bool
  | .b _ => true
  | _ => false
def AnyV.asInt : AnyV → Int
  | .i x => x
  | _ => 0
def AnyV.isInt : AnyV → Bool
  | .i _ => true
  | _ => false
def kany : Kd AnyV := Kd.scalar AnyV.enc (fun x => by cases x <;> rfl)
theorem at_any {w : World} {A : Option Addr} {n : Nat} {xs : List AnyV} (h : kany.C w A n xs) (i : Int) (h0 : 0 ≤ i) (h1 : i < n) : ∃ ad, A = some ad ∧ w.cell? (ad.add i.toNat) = some (rdOf AnyV.nil xs i).enc := by
  obtain ⟨ad, c, e, _, hK, hc⟩ := Kd.C_get h AnyV.nil i h0 h1
  have hk : c = [(rdOf AnyV.nil xs i).enc] := hK
  subst hk
  refine ⟨ad, e, ?_⟩
  have := hc 0 _ rfl
  simpa [kany, Kd.scalar] using this
theorem assert_bool (v : AnyV) (W : World) : (Instr.typeAssert v.enc 20 4 true).run Try.prog W = .ok (.tuple #[.bool v.asBool, .bool v.isBool]) W := by
  cases v <;> kernel_rfl
theorem assert_int (v : AnyV) (W : World) : (Instr.typeAssert v.enc 20 3 true).run Try.prog W = .ok (.tuple #[.int .i64 v.asInt, .bool v.isInt]) W := by
  cases v <;> kernel_rfl

/-- The code behind the first condition that holds; 0 if none holds. -/
def firstOf : List AnyV → Int
  | x :: y :: l => if x.asBool = true then y.asInt else firstOf l
  | _ => 0
theorem firstOf_short {l : List AnyV} (h : l.length < 2) : firstOf l = 0 := by
  match l, h with
  | [], _ => rfl
  | [_], _ => rfl
theorem firstOf_drop {l : List AnyV} {k : Nat} (h : k + 1 < l.length) : firstOf (l.drop k) = if (rdOf AnyV.nil l (k : Int)).asBool = true then (rdOf AnyV.nil l ((k : Int) + 1)).asInt else firstOf (l.drop (k + 2)) := by
  have e1 : l.drop k = l[k] :: l[k + 1] :: l.drop (k + 2) := by
    rw [List.drop_eq_getElem_cons (by omega), List.drop_eq_getElem_cons (i := k + 1) (by omega)]
  have r1 : rdOf AnyV.nil l (k : Int) = l[k] := by
    unfold rdOf
    simp [List.getD_eq_getElem?_getD, List.getElem?_eq_getElem (show k < l.length by omega)]
  have r2 : rdOf AnyV.nil l ((k : Int) + 1) = l[k + 1] := by
    unfold rdOf
    have : ((k : Int) + 1).toNat = k + 1 := by omega
    simp [this, List.getD_eq_getElem?_getD, List.getElem?_eq_getElem h]
  rw [e1, r1, r2]
  rfl

def impl_first.f (l0 : List AnyV) : Option Int := if l0.length ≤ 1000 then some (firstOf l0) else none
set_option maxHeartbeats 1000000 in
set_option maxRecDepth 100000 in
theorem impl_first.calls (A0 : Option Addr) (c0 : Nat) (l0 : List AnyV) (r : Int) (w : World) (hr0 : Kd.C kany w A0 l0.length l0) (hc0 : l0.length ≤ c0) (h : impl_first.f l0 = some r) :
    Calls Try.prog 39 #[.slice A0 l0.length c0] w fun e w' => e = .returned (.int .i64 r) ∧ Drawn0 w w' := by
  unfold impl_first.f at h
  by_cases hm : l0.length ≤ 1000
  rotate_left
  · rw [if_neg hm] at h; cases h
  rw [if_pos hm] at h
  obtain rfl := Option.some.inj h
  clear h
  have HR0 := Aside0.mk hr0
  clear hr0
  have ab := assert_bool
  have ai := assert_int
  go_enter Try.func39, Try.ntmps39
  go_wp2
  go_loopw [2, 3] (fun o i w' => ∃ k : Nat, k ≤ l0.length ∧ o = .int .i64 0 ∧ i = .int .i64 (k : Int) ∧ Aside0 (firstOf (l0.drop k) = firstOf l0) ∧ w' = w) (fun _ i _ => l0.length - (intOf i).toNat)
  case atStart => exact ⟨0, Nat.zero_le _, rfl, rfl, ⟨rfl⟩, rfl⟩
  case round =>
    obtain ⟨k, hk, rfl, rfl, HF, rfl⟩ := hrel
    by_cases hlt : k + 1 < l0.length
    · have HD := Aside0.mk (firstOf_drop hlt)
      obtain ⟨ad, e, hx⟩ := at_any HR0.out (k : Int) (by omega) (by omega)
      obtain ⟨ad', e', hy⟩ := at_any HR0.out ((k : Int) + 1) (by omega) (by omega)
      obtain rfl : ad = ad' := by rw [e] at e'; exact Option.some.inj e'
      clear e'
      cases e
      have e1 : ((k : Int)).toNat = k := by omega
      have e2 : ((k : Int) + 1).toNat = k + 1 := by omega
      rw [e1] at hx
      rw [e2] at hy
      clear e1 e2
      have hz : wr.cell? ⟨ad.block, ad.off + (k + 1), none⟩ = some (rdOf AnyV.nil l0 ((k : Int) + 1)).enc := hy
      by_cases hb : (rdOf AnyV.nil l0 (k : Int)).asBool = true
      · go_wp2
        go_ret
        have e3 : (rdOf AnyV.nil l0 ((k : Int) + 1)).asInt = firstOf l0 := by rw [← HF.out, HD.out, if_pos hb]
        exact ⟨congrArg (fun z => Ending.returned (.int .i64 z)) e3, Drawn0.refl _⟩
      · have hb' : (rdOf AnyV.nil l0 (k : Int)).asBool = false := by simpa using hb
        clear hb
        go_wp2
        go_roundw
        case rel => exact ⟨k + 2, by omega, rfl, by go_num, ⟨by rw [← HF.out, HD.out, if_neg (by rw [hb']; decide)]⟩, trivial⟩
        case measure => simp [intOf]; omega
    · have hs : firstOf (l0.drop k) = 0 := firstOf_short (by simp; omega)
      have HS := Aside0.mk hs
      clear hs
      go_wp2
      go_ret
      have e3 : (0 : Int) = firstOf l0 := by rw [← HF.out, HS.out]
      exact ⟨congrArg (fun z => Ending.returned (.int .i64 z)) e3, Drawn0.refl _⟩
end Go.Proofs.Ytlclbdfcniiolaa.Hand
