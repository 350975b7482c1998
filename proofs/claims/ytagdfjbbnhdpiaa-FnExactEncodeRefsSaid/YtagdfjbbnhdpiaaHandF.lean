/- The program's resized: a table of another size, by make and copy; for sizes and tables of at most 1000 numbers (elsewhere the function here tells nothing). -/
import Derived.Test.YtagdfjbbnhdpiaaHandA
import Derived.Laws.CopyOwn
namespace Go.Proofs.Ytagdfjbbnhdpiaa.Hand
open Go.RowKit Go.Proofs.YtagdfjbbnhdpiaaW.PrintWords Go.Proofs.YtagdfjbbnhdpiaaW.PrintLast Go.Proofs.YtagdfjbbnhdpiaaW.PrintMore
set_option linter.unusedVariables false
set_option linter.unusedSimpArgs false
theorem infoResized : (Try.prog.info? 3).map (fun i => (i.zero, i.size, i.bytes)) = some (some (.int .i64 0), 1, 8) := by kernel_rfl
def resizedOf (l0 : List Int) (n : Nat) : List Int := (l0 ++ List.replicate n 0).take n
theorem length_resizedOf (l0 : List Int) (n : Nat) : (resizedOf l0 n).length = n := by simp [resizedOf]
theorem resizedOf_cells (l0 : List Int) (n : Nat) : splice (List.replicate n (Value.int .i64 0)) 0 ((l0.take n).map (Value.int .i64)) = (resizedOf l0 n).map (Value.int .i64) := by
  unfold splice resizedOf
  rw [List.take_append, List.map_append]
  simp only [List.take_zero, List.nil_append, Nat.zero_add, List.length_map, List.length_take, List.drop_replicate, List.take_replicate, List.map_replicate]
  have e : n - min n l0.length = min (n - l0.length) n := by omega
  rw [e]
  simp
theorem made_list (v : Value) (n : Nat) : (madeCells #[v] n).toList = List.replicate n v := by
  apply List.ext_getElem
  · simp [madeCells]
  · intro i h1 h2
    simp [madeCells, Nat.mod_one]
theorem made_block {w1 : World} {base g n : Nat} {e : TypeId} {v : Value} (h : w1.ownsRow base e 1 (.slice (some ⟨g, 0, none⟩) n n) n (madeCells #[v] (n * 1)).toList) : w1.heap[g]? = some (.cells (List.replicate n v).toArray e (0, 0)) := by
  obtain ⟨_, h | ⟨g', cap, cur, hv, _, hh, _, _, hs, ht⟩⟩ := h
  · cases h.1
  · injection hv with ha _ hc
    injection ha with ha
    injection ha with ha _
    subst ha
    subst hc
    rw [made_list] at ht
    rw [hh]
    have : cur.toList = List.replicate n v := by
      rw [List.take_of_length_le (by simp; omega)] at ht
      simpa using ht
    rw [← this]
theorem block_own {w1 : World} {base g n : Nat} {e : TypeId} {T : List Int} (hg : base ≤ g) (hl : T.length = n) (hn : n ≤ maxLen) (h : w1.heap[g]? = some (.cells (T.map (Value.int .i64)).toArray e (0, 0))) : Kd.R (Kd.int .i64) e w1 base (fun _ => True) (.slice (some ⟨g, 0, none⟩) n n) T := by
  subst hl
  refine Kd.R_of_own (enc := Value.int .i64) (h1 := fun _ => rfl) ⟨by simp [encs], .inr ⟨g, T.length, _, rfl, hg, h, Nat.le_refl _, hn, by simp, ?_⟩⟩ (fun _ _ => trivial)
  simp only [encs, Nat.mul_one]
  exact List.take_of_length_le (by simp)
theorem copy_len (l0 : List Int) (n : Nat) : ((l0.take n).map (Value.int .i64)).length = Nat.min l0.length n := by
  simp only [List.length_map, List.length_take]
  exact Nat.min_comm _ _
theorem copy_fit (l0 : List Int) (n : Nat) : 0 + ((l0.take n).map (Value.int .i64)).length ≤ (List.replicate n (Value.int .i64 0)).length := by
  simp only [List.length_map, List.length_take, List.length_replicate]
  omega
theorem copy_one (xs : List Int) : ∀ v ∈ xs.map (Value.int .i64), v.oneCell' = true := by
  intro v hv
  obtain ⟨x, _, rfl⟩ := List.mem_map.1 hv
  rfl
theorem copy_src {w w1 : World} {A0 : Option Addr} {l0 : List Int} {n : Nat} {g : Nat} (h : Kd.C (Kd.int .i64) w A0 l0.length l0) (hb : Below w.heap.size w w1) :
    0 < ((l0.take n).map (Value.int .i64)).length → (some (⟨g, 0, none⟩ : Addr)) = some ⟨g, 0, none⟩ ∧ ∃ ad, A0 = some ad ∧ ∀ j v, ((l0.take n).map (Value.int .i64))[j]? = some v → w1.cell? (ad.add j) = some v := by
  intro hp
  simp only [List.length_map, List.length_take] at hp
  refine ⟨rfl, ?_⟩
  have h' := Kd.C_below h hb
  obtain ⟨ad, e, _⟩ := Kd.at_int h' 0 (by omega) (by omega)
  refine ⟨ad, e, fun j v hv => ?_⟩
  obtain ⟨hj, hjv⟩ := List.getElem?_eq_some_iff.1 hv
  simp only [List.length_map, List.length_take] at hj
  obtain ⟨ad', e', hc⟩ := Kd.at_int h' (j : Int) (by omega) (by omega)
  rw [e] at e'
  obtain rfl := Option.some.inj e'
  rw [show ((j : Int)).toNat = j by omega] at hc
  rw [hc, ← hjv]
  simp [rd, List.getD_eq_getElem?_getD, List.getElem?_eq_getElem (show j < l0.length by omega)]
def impl_resized.f (l0 : List Int) (a1 : Int) : Option (List Int) := if 0 ≤ a1 ∧ a1 ≤ 1000 ∧ l0.length ≤ 1000 then some (resizedOf l0 a1.toNat) else none
set_option maxHeartbeats 2000000 in
set_option maxRecDepth 100000 in
theorem impl_resized.calls (A0 : Option Addr) (c0 : Nat) (l0 : List Int) (a1 : Int) (r : List Int) (w : World) (hr0 : Kd.C (Kd.int .i64) w A0 l0.length l0) (hc0 : l0.length ≤ c0) (h : impl_resized.f l0 a1 = some r) :
    Calls Try.prog 68 #[.slice A0 l0.length c0, .int .i64 a1] w fun e w' => ∃ v0_ : Value, e = .returned (v0_) ∧ Kd.R (Kd.int .i64) 3 w' w.heap.size (fun _ => True) v0_ r ∧ Below w.heap.size w w' := by
  unfold impl_resized.f at h
  by_cases hl : 0 ≤ a1 ∧ a1 ≤ 1000 ∧ l0.length ≤ 1000
  rotate_left
  · rw [if_neg hl] at h; cases h
  rw [if_pos hl] at h
  obtain ⟨h0, h1, h2⟩ := hl
  obtain rfl := Option.some.inj h
  clear h
  obtain ⟨n, rfl⟩ := Int.eq_ofNat_of_zero_le h0
  have e0 : (Int.ofNat n).toNat = n := rfl
  rw [show ((n : Int)).toNat = n from rfl]
  clear e0
  have HR0 := Aside0.mk hr0
  have H2 := Aside0.mk h2
  clear hr0 hc0 h2
  obtain ⟨i0, hi, hzz⟩ := Option.map_eq_some_iff.1 infoResized
  simp only [Prod.mk.injEq] at hzz
  obtain ⟨hz0, hz1, hz2⟩ := hzz
  have HI := Aside0.mk hi
  have HZ0 := Aside0.mk hz0
  have HZ1 := Aside0.mk hz1
  have HZ2 := Aside0.mk hz2
  have H1 := Aside0.mk h1
  clear hi hz0 hz1 hz2 h1
  go_enter Try.func68, Try.ntmps68
  go_wp2_with (first | ((with_reducible refine gate_dst (N := 7) rfl ?_); refine wpList_make_full _ rfl (.tmp 6) (.tmp 6) 22 rfl w.heap.size 3 i0 (.int .i64 0) 1 Try.underlying22 HI.out HZ0.out HZ1.out .i64 .i64 (n : Int) (n : Int) n rfl rfl rfl rfl ?mA ?mB (Nat.le_refl _) ?_; (case mA => rw [HZ2.out]; have := H1.out; omega); (case mB => have := H1.out; unfold maxLen; omega); intro w1 hown hgr; have HM := Aside0.mk (made_block hown); have HL := Aside0.mk ((Below.refl w.heap.size w).grown hgr (Nat.le_refl _) (fun k hk => by cases hk)); clear hown hgr) | ((with_reducible refine gate_builtin (b := .copy) (xs := #[.tmp 8, .tmp 9]) rfl ?_); refine wpList_copy_splice rfl (.tmp 8) (.tmp 9) 22 22 rfl 3 Try.underlying22 ?cA (some ⟨w.heap.size, 0, none⟩) A0 n n l0.length c0 rfl rfl w.heap.size 0 (List.replicate n (.int .i64 0)) 3 HM.out ((l0.take n).map (Value.int .i64)) ?cB ?cC ?cD ?cE w.heap.size w HL.out (Nat.le_refl _) ?_; (case cA => rw [HI.out]; exact congrArg some HZ1.out); (case cB => exact copy_len l0 n); (case cC => exact copy_src HR0.out HL.out); (case cD => exact copy_fit l0 n); (case cE => exact copy_one _); intro w2 hh hb; have HM2 := Aside0.mk (show w2.heap[w.heap.size]? = some (.cells ((resizedOf l0 n).map (Value.int .i64)).toArray 3 (0, 0)) by rw [← resizedOf_cells]; exact hh); have HL2 := Aside0.mk hb; clear hh hb))
  go_ret
  exact ⟨_, rfl, block_own (Nat.le_refl _) (length_resizedOf l0 n) (by have := H1.out; unfold maxLen; omega) HM2.out, HL2.out⟩
end Go.Proofs.Ytagdfjbbnhdpiaa.Hand
