/- Whoever decides decides the same, and a value that somebody had: for codes of bytes of any length. -/
import Derived.Test.YtlclbdfcniiolaaQ4
import Derived.Test.YtlclbdfcniiolaaQ3
import Derived.Test.YtlclbdfcniiolaaQ2
import Derived.Test.YtlclbdfcniiolaaPax
import Derived.Test.YtlclbdfcniiolaaNext
import Derived.Test.YtlclbdfcniiolaaAt
set_option linter.unusedSimpArgs false
set_option linter.unusedVariables false
namespace Go.Proofs.Ytlclbdfcniiolaa.Pure
open Go.RowKit Go.Proofs.Ytlclbdfcniiolaa.Q Go.Proofs.Ytlclbdfcniiolaa.Hand Go.Proofs.YtlclbdfcniiolaaW.PrintWords Go.Proofs.YtlclbdfcniiolaaW.PrintLast Go.Proofs.YtlclbdfcniiolaaW.PrintMore

theorem bind_of {α β : Type} {x : Option α} {a : α} {f : α → Option β} {r : Option β} (h : x = some a) (h2 : f a = r) : x.bind f = r := by rw [h]; exact h2
/-! the drawn schedule: hosts, at most 700 steps -/
theorem sched_inner (l : List Int) (x4 x5 a s : Int) (e : Nat) : ∀ (k : Nat) (x3 : List Int), x3.length + e ≤ 10000 → e ≤ 1000 → spec_l00Src_schedule.l1 (k + e + 1) x3 x4 x5 ((e : Int) - 1) l a s = spec_l00Src_schedule.l0 k (x3 ++ List.replicate e x5) (wrap64 (x4 - 1)) l a s := by
  induction e with
  | zero =>
    intro k x3 _ _
    simp only [spec_l00Src_schedule.l1]
    rw [if_neg (by omega), List.replicate_zero, List.append_nil]
  | succ e ih =>
    intro k x3 h _
    have hk : k + (e + 1) + 1 = (k + e + 1) + 1 := by omega
    have hw : wrap64 (((e + 1 : Nat) : Int) - 1 - 1) = (e : Int) - 1 := by unfold wrap64; omega
    have hi := ih k (x3 ++ [x5]) (by rw [List.length_append, List.length_singleton]; omega) (by omega)
    rw [hk]
    generalize k + e + 1 = K at hi ⊢
    simp only [spec_l00Src_schedule.l1]
    rw [if_pos (by omega), if_pos (by omega), hw, hi, List.append_assoc, List.replicate_succ]
    rfl
theorem sched_outer (l : List Int) (d : Nat) : ∀ (k : Nat) (x3 : List Int) (a s : Int), Src l a s → d ≤ 200 → 8 * d < k → a + 6 * (d : Int) ≤ 1000000 → (∀ x ∈ x3, 0 ≤ x ∧ x < 4) → x3.length + 6 * d ≤ 5000 →
    ∃ out a' s', spec_l00Src_schedule.l0 k x3 (d : Int) l a s = some (out, a', s') ∧ (∀ x ∈ out, 0 ≤ x ∧ x < 4) ∧ out.length ≤ x3.length + 6 * d := by
  induction d with
  | zero =>
    intro k x3 a s hs _ hk _ h3 _
    obtain ⟨k, rfl⟩ : ∃ m, k = m + 1 := ⟨k - 1, by omega⟩
    simp only [spec_l00Src_schedule.l0]
    rw [if_neg (by omega)]
    exact ⟨_, _, _, rfl, h3, by omega⟩
  | succ d ih =>
    intro k x3 a s hs hd hk ha h3 hl
    obtain ⟨k, rfl⟩ : ∃ m, k = m + 1 := ⟨k - 1, by omega⟩
    simp only [spec_l00Src_schedule.l0]
    rw [if_pos (by omega)]
    obtain ⟨r, a1, s1, e1, r0, r1, _, b1, b2, hs1⟩ := next_is 4 hs (by omega) (by omega)
    obtain ⟨q, a2, s2, e2, q0, q1, _, c1, c2, hs2⟩ := next_is 6 hs1 (by omega) (by omega)
    have hq : q = ((q.toNat + 1 : Nat) : Int) - 1 := by omega
    have hk2 : k = (k - (q.toNat + 1) - 1) + (q.toNat + 1) + 1 := by omega
    have hw : wrap64 (((d + 1 : Nat) : Int) - 1) = (d : Int) := by unfold wrap64; omega
    have hin := sched_inner l ((d + 1 : Nat) : Int) r a2 s2 (q.toNat + 1) (k - (q.toNat + 1) - 1) x3 (by omega) (by omega)
    rw [← hk2, ← hq, hw] at hin
    obtain ⟨out, a', s', eo, ho, hlen⟩ := ih (k - (q.toNat + 1) - 1) (x3 ++ List.replicate (q.toNat + 1) r) a2 s2 hs2 (by omega) (by omega) (by omega) (fun x hx => by
      rcases List.mem_append.1 hx with hx | hx
      · exact h3 x hx
      · have := List.eq_of_mem_replicate hx
        omega) (by rw [List.length_append, List.length_replicate]; omega)
    rw [List.length_append, List.length_replicate] at hlen
    exact ⟨out, a', s', bind_of e1 (bind_of e2 (hin.trans eo)), ho, by omega⟩
theorem mn_is (a b : Int) : mn a b ≤ b ∧ mn a b ≤ a ∧ (mn a b = a ∨ mn a b = b) := by
  unfold mn
  by_cases c : b < a
  · rw [if_pos c]; omega
  · rw [if_neg c]; omega
theorem schedule_is {l : List Int} (h : ∀ x ∈ l, (fun x : Int => (Lit.int .u8 x).wf = true) x) (hl : l.length ≤ 1048576) (k : Nat) (hk : 2000 < k) : ∃ out, spec_ScheduleOf.f k l = some out ∧ (∀ x ∈ out, 0 ≤ x ∧ x < 4) ∧ out.length ≤ 4096 := by
  obtain ⟨e, hs⟩ := source_is h
  have w1 : wrap64 ((l.length : Int) / 12) = (l.length : Int) / 12 := w64n (by omega) (by omega)
  have hm := mn_is (wrap64 (1 + wrap64 ((l.length : Int) / 12))) 90
  have hm0 : 0 < mn (wrap64 (1 + wrap64 ((l.length : Int) / 12))) 90 := by
    rw [w1, w64n (x := 1 + (l.length : Int) / 12) (by omega) (by omega)] at hm ⊢
    omega
  have hsz : spec_l00Src_size.f l 0 ((l.length : Int) % 1000) 90 = some (mn (wrap64 (1 + wrap64 ((l.length : Int) / 12))) 90, 0, (l.length : Int) % 1000) := by unfold spec_l00Src_size.f; with_reducible rfl
  generalize mn (wrap64 (1 + wrap64 ((l.length : Int) / 12))) 90 = m at hm hm0 hsz
  obtain ⟨r, a1, s1, e1, r0, r1, _, b1, b2, hs1⟩ := next_is (m + 20) hs (by omega) (by omega)
  rw [← w64n (x := m + 20) (by omega) (by omega)] at e1
  obtain ⟨out, a', s', eo, ho, hlen⟩ := sched_outer l r.toNat k [] a1 s1 hs1 (by omega) (by omega) (by omega) (fun x hx => by simp at hx) (by simp; omega)
  have hr : ((r.toNat : Nat) : Int) = r := by omega
  rw [hr] at eo
  simp only [List.length_nil] at hlen
  refine ⟨out, ?_, ho, by omega⟩
  have hsch : spec_l00Src_schedule.f k l 0 ((l.length : Int) % 1000) = some (out, a', s') := by
    unfold spec_l00Src_schedule.f
    exact bind_of hsz (bind_of e1 eo)
  unfold spec_ScheduleOf.f
  exact bind_of e (bind_of hsch (by with_reducible rfl))
/-! sameInts, sameBlocks of a list and itself -/
theorem sameInts_self (a : List Int) (hn : a.length ≤ 1000) (d : Nat) : ∀ (k i : Nat), i + d = a.length → d < k → laws_sameInts.l0 k a a (i : Int) = some true := by
  induction d with
  | zero =>
    intro k i hi hk
    obtain ⟨k, rfl⟩ : ∃ m, k = m + 1 := ⟨k - 1, by omega⟩
    simp only [laws_sameInts.l0]
    rw [if_neg (by omega)]
  | succ d ih =>
    intro k i hi hk
    obtain ⟨k, rfl⟩ : ∃ m, k = m + 1 := ⟨k - 1, by omega⟩
    simp only [laws_sameInts.l0]
    rw [if_pos (by omega), if_pos (by omega), if_pos (by omega), if_pos trivial, wrap_small (n := a.length) (by omega) (by omega)]
    exact ih k (i + 1) (by omega) (by omega)
theorem sameBlocks_self (a : List S53) (hn : a.length ≤ 1000) (d : Nat) : ∀ (k i : Nat), i + d = a.length → d < k → laws_sameBlocks.l0 k a a (i : Int) = some true := by
  induction d with
  | zero =>
    intro k i hi hk
    obtain ⟨k, rfl⟩ : ∃ m, k = m + 1 := ⟨k - 1, by omega⟩
    simp only [laws_sameBlocks.l0]
    rw [if_neg (by omega)]
  | succ d ih =>
    intro k i hi hk
    obtain ⟨k, rfl⟩ : ∃ m, k = m + 1 := ⟨k - 1, by omega⟩
    simp only [laws_sameBlocks.l0]
    rw [if_pos (by omega), if_pos (by omega), if_pos (by omega), if_neg (by simp), wrap_small (n := a.length) (by omega) (by omega)]
    exact ih k (i + 1) (by omega) (by omega)
/-! the law's two loops -/
theorem known_loop {v a : List Int} {c h : Int} (hv : v.length = 4) (ha : a.length = 4) (h0 : 0 ≤ h) (h4 : h < 4) (hc : c < 0 ∨ rd a h = c) (kk : Nat) (d : Nat) : ∀ (j : Nat) (fl : Bool), j + d = 4 → (fl = true ∨ ∃ i : Nat, j ≤ i ∧ i < 4 ∧ rd v (i : Int) = rd a h) → laws_FnAgree.l1 (kk + d + 1) v a c h fl (j : Int) = laws_FnAgree.l0 kk v a (rd a h) (wrap64 (h + 1)) := by
  induction d with
  | zero =>
    intro j fl hj hfl
    have hf : fl = true := by
      rcases hfl with x | ⟨i, i0, i4, _⟩
      · exact x
      · omega
    simp only [laws_FnAgree.l1]
    rw [if_neg (by omega), if_pos hf]
    by_cases hcc : c ≥ 0
    · rw [if_pos hcc, if_pos h0, if_pos (by omega), if_pos (by omega)]
    · rw [if_neg hcc, if_pos h0, if_pos (by omega)]
  | succ d ih =>
    intro j fl hj hfl
    have hk : kk + (d + 1) + 1 = (kk + d + 1) + 1 := by omega
    have hw : wrap64 ((j : Int) + 1) = ((j + 1 : Nat) : Int) := by unfold wrap64; omega
    rw [hk]
    simp only [laws_FnAgree.l1]
    rw [if_pos (by omega)]
    cases fl with
    | true =>
      rw [if_pos rfl, hw]
      exact ih (j + 1) true (by omega) (.inl rfl)
    | false =>
      rw [if_neg (by decide), if_pos (by omega), if_pos (by omega), if_pos h0, if_pos (by omega), hw]
      apply ih (j + 1) _ (by omega)
      rcases hfl with x | ⟨i, i0, i4, hi⟩
      · exact absurd x (by decide)
      · by_cases e : i = j
        · subst e
          exact .inl (by rw [hi]; simp)
        · exact .inr ⟨i, by omega, i4, hi⟩
theorem map_one {ps : List S26} (hp : ps.length = 4) (g : Int) (g0 : 0 ≤ g) (g4 : g < 4) : rd (ps.map rpOne) g = rpOne (rd_T26 ps g) := by
  have hn : g.toNat < ps.length := by omega
  simp [rd, rd_T26, List.getD_eq_getElem?_getD, List.getElem?_eq_getElem hn]
theorem agree_loop {v : List Int} {ps : List S26} {b : List S53} {N : Int} (hv : v.length = 4) (hpos : ∀ x ∈ v, 0 ≤ x) (hI : InvL v N ps b) (d : Nat) : ∀ (k h : Nat) (c : Int), h + d = 4 → 8 * d < k → (c < 0 ∨ ∃ g : Int, 0 ≤ g ∧ g < 4 ∧ (rd_T26 ps g).f2 = 5 ∧ c = (rd_T26 ps g).f4) → laws_FnAgree.l0 k v (ps.map rpOne) c (h : Int) = some true := by
  have hla : (ps.map rpOne).length = 4 := by rw [List.length_map]; exact hI.1
  induction d with
  | zero =>
    intro k h c hh hk hc
    obtain ⟨k, rfl⟩ : ∃ m, k = m + 1 := ⟨k - 1, by omega⟩
    simp only [laws_FnAgree.l0]
    rw [if_neg (by omega)]
  | succ d ih =>
    intro k h c hh hk hc
    obtain ⟨k, rfl⟩ : ∃ m, k = m + 6 := ⟨k - 6, by omega⟩
    have h0 : (0 : Int) ≤ (h : Int) := by omega
    have h4 : (h : Int) < 4 := by omega
    have hw : wrap64 ((h : Int) + 1) = ((h + 1 : Nat) : Int) := by unfold wrap64; omega
    have hm := map_one hI.1 (h : Int) h0 h4
    simp only [laws_FnAgree.l0]
    rw [if_pos h4, if_pos h0, if_pos (by omega)]
    by_cases c5 : (rd_T26 ps (h : Int)).f2 = 5
    · have e : rd (ps.map rpOne) (h : Int) = (rd_T26 ps (h : Int)).f4 := by rw [hm]; unfold rpOne; rw [if_pos c5]
      have hval := (inv_agree hI.2.2 h0 h4 h0 h4 c5 c5).2
      rw [if_neg (by rw [e]; have := hpos _ hval; omega)]
      have hmem : ∃ i : Nat, 0 ≤ i ∧ i < 4 ∧ rd v (i : Int) = rd (ps.map rpOne) (h : Int) := by
        obtain ⟨i, hi, hv'⟩ := List.getElem_of_mem hval
        exact ⟨i, by omega, by omega, by rw [e, rd_get v i hi]; exact hv'⟩
      have hcc : c < 0 ∨ rd (ps.map rpOne) (h : Int) = c := by
        rcases hc with x | ⟨g, g0, g4, g5, e2⟩
        · exact .inl x
        · exact .inr (by rw [e, e2]; exact ((inv_agree hI.2.2 g0 g4 h0 h4 g5 c5).1).symm)
      have hk := known_loop hv hla h0 h4 hcc k 4 0 false (by omega) (.inr hmem)
      rw [hw] at hk
      exact hk.trans (ih k (h + 1) _ (by omega) (by omega) (.inr ⟨h, h0, h4, c5, e⟩))
    · have e : rd (ps.map rpOne) (h : Int) = -1 := by rw [hm]; unfold rpOne; rw [if_neg c5]
      rw [if_pos (by omega), hw]
      exact ih (k + 5) (h + 1) c (by omega) (by omega) hc
theorem rpRun_length {k : Nat} {l0 : List Int} : ∀ {t : List Int} {ps p : List S26} {bl b : List S53}, rpRun k l0 t ps bl = some (p, b) → p.length = ps.length := by
  intro t
  induction t with
  | nil =>
    intro ps p bl b h
    have h := Option.some.inj h
    simp only [Prod.mk.injEq] at h
    rw [h.1]
  | cons x t ih =>
    intro ps p bl b h
    simp only [rpRun] at h
    obtain ⟨p1, h1, h⟩ := Option.bind_eq_some_iff.mp h
    obtain ⟨⟨p2, b2⟩, h2, h⟩ := Option.bind_eq_some_iff.mp h
    rw [ih h, (rpMove_length h2).1, rpBegin_length h1]
theorem bytes_wf {l : List Int} (h : ∀ x ∈ l, (fun x : Int => (Lit.int .u8 x).wf = true) x) : ∀ x ∈ l, 0 ≤ x ∧ x ≤ 255 := by
  intro x hx
  have := h x hx
  simp [Lit.wf, IntKind.min, IntKind.max, IntKind.bits, IntKind.signed] at this
  omega
theorem agree_tail (l0 l1 : List Int) (h0 : ∀ x ∈ l0, (fun x : Int => (Lit.int .u8 x).wf = true) x) (h1 : ∀ x ∈ l1, (fun x : Int => (Lit.int .u8 x).wf = true) x) (hl0 : l0.length ≤ 1048576) (hl1 : l1.length ≤ 1048576) : laws_FnAgree.j0 10001 l0 l1 false = some true := by
  simp only [laws_FnAgree.j0, Bool.false_eq_true, if_false]
  have hb := bytes_wf h1
  obtain ⟨t0, a0, b0, c0⟩ := at_is (l := l1) 0 50 hb (by omega) (by omega) (by omega)
  obtain ⟨t1, a1, b1, c1⟩ := at_is (l := l1) 1 50 hb (by omega) (by omega) (by omega)
  obtain ⟨t2, a2, b2, c2⟩ := at_is (l := l1) 2 50 hb (by omega) (by omega) (by omega)
  obtain ⟨t3, a3, b3, c3⟩ := at_is (l := l1) 3 50 hb (by omega) (by omega) (by omega)
  refine bind_of a0 (bind_of a1 (bind_of a2 (bind_of a3 ?_)))
  rw [w64n (x := 10 + t0) (by omega) (by omega), w64n (x := 100 + t1) (by omega) (by omega), w64n (x := 200 + t2) (by omega) (by omega), w64n (x := 300 + t3) (by omega) (by omega)]
  obtain ⟨out, eo, ho, hlen⟩ := schedule_is h0 hl0 10000 (by decide)
  obtain ⟨v, hv⟩ : ∃ v, [10 + t0, 100 + t1, 200 + t2, 300 + t3] = v := ⟨_, rfl⟩
  have hvl : v.length = 4 := by rw [← hv]; rfl
  have hvp : ∀ x ∈ v, 0 ≤ x ∧ x ≤ 2147483647 := by
    rw [← hv]
    intro x hx
    simp only [List.mem_cons, List.mem_singleton, List.not_mem_nil, or_false] at hx
    omega
  rw [hv]
  refine bind_of (a := v) rfl (bind_of eo ?_)
  obtain ⟨a, b, c, e1, e2, hc, hab⟩ := run_is v out 10000 (by decide)
  have hc0 : rpCode v out = 0 := by
    unfold rpCode
    have h1 : v.all fn_isNumber.p = true := by
      rw [List.all_eq_true]
      intro x hx
      have := hvp x hx
      simp [fn_isNumber]
      omega
    have h2 : out.all fn_isHost.p = true := by
      rw [List.all_eq_true]
      intro x hx
      have := ho x hx
      simp [fn_isHost]
      omega
    rw [if_neg (by omega), if_pos ⟨by omega, h1⟩, if_pos h2]
  rw [hc0] at hc
  subst hc
  refine bind_of e2 (bind_of e1 ?_)
  obtain ⟨ps, N, rfl, hI⟩ : ∃ ps N, a = ps.map rpOne ∧ InvL v N ps b := by
    rcases hab with ⟨x, y⟩ | x
    · exfalso
      have h := e2
      unfold impl_RunPaxos.f at h
      rw [hc0, if_pos rfl] at h
      obtain ⟨⟨pz, bz⟩, hr, h⟩ := Option.bind_eq_some_iff.mp h
      have h := Option.some.inj h
      simp only [Prod.mk.injEq] at h
      have hl := rpRun_length hr
      have h1 := congrArg List.length h.1
      rw [x, List.length_map, hl] at h1
      simp at h1
    · exact x
  have hla : (ps.map rpOne).length = 4 := by rw [List.length_map]; exact hI.1
  rw [if_pos rfl]
  have s1 : laws_sameInts.f 10000 (ps.map rpOne) (ps.map rpOne) = some true := by
    unfold laws_sameInts.f
    rw [if_pos rfl]
    exact sameInts_self _ (by omega) 4 10000 0 (by omega) (by omega)
  have s2 : laws_sameBlocks.f 10000 b b = some true := by
    unfold laws_sameBlocks.f
    rw [if_pos rfl]
    exact sameBlocks_self _ (by have := hI.2.1; omega) 4 10000 0 (by have := hI.2.1; omega) (by omega)
  refine bind_of s1 ?_
  rw [if_pos rfl]
  refine bind_of s2 ?_
  have hne : (((ps.map rpOne).length : Int) != 4) = false := by rw [hla]; rfl
  rw [if_pos rfl]
  show laws_FnAgree.j1 (9999 + 1) v (ps.map rpOne) (((ps.map rpOne).length : Int) != 4) = some true
  rw [hne]
  simp only [laws_FnAgree.j1, Bool.false_eq_true, if_false]
  exact agree_loop hvl (fun x hx => (hvp x hx).1) hI 4 9999 0 (-1) (by omega) (by omega) (.inl (by decide))
theorem FnAgree (l0 : List Int) (l1 : List Int) (_ : l0.length ≤ maxLen) (h0 : ∀ x ∈ l0, (fun x : Int => (Lit.int .u8 x).wf = true) x) (_ : l1.length ≤ maxLen) (h1 : ∀ x ∈ l1, (fun x : Int => (Lit.int .u8 x).wf = true) x) : ∃ k, laws_FnAgree.f k l0 l1 = some true := by
  refine ⟨10001, ?_⟩
  have ht : laws_FnAgree.j0 10001 l0 l1 true = some true := by simp only [laws_FnAgree.j0, if_true]
  unfold laws_FnAgree.f
  by_cases h : (l0.length : Int) > 1048576
  · rw [if_pos h]; exact ht
  · rw [if_neg h]
    by_cases h' : (l1.length : Int) > 1048576
    · rw [decide_eq_true h']; exact ht
    · rw [decide_eq_false h']; exact agree_tail l0 l1 h0 h1 (by omega) (by omega)
end Go.Proofs.Ytlclbdfcniiolaa.Pure
