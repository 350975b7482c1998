/- How a struct by value and a slice of structs, handed to a law, read: plain lemmas for the rows of laws over structs; no condition of their own. -/
import Derived.Test.YtlclbdfcniiolaaWMore
import Derived.ProofKit
import Derived.OpenShut
import Derived.ShutString
import Derived.Deep.Slices
import Derived.Deep.Fields
import Derived.ChangeSame
namespace Go.Proofs.Ytlclbdfcniiolaa.Opened
open Go.ChangeShapes Go.WideShapes Go.ChangeAt Go.RowKit Go.Deep Go.Proofs.YtlclbdfcniiolaaW.PrintWords
set_option linter.unusedVariables false
theorem len1 {α : Type} {l : List α} (h : l.length = 1) : ∃ c0, l = [c0] := by
  match l, h with
  | [c0], _ => exact ⟨c0, rfl⟩
theorem len2 {α : Type} {l : List α} (h : l.length = 2) : ∃ c0 c1, l = [c0, c1] := by
  match l, h with
  | [c0, c1], _ => exact ⟨c0, c1, rfl⟩
theorem len3 {α : Type} {l : List α} (h : l.length = 3) : ∃ c0 c1 c2, l = [c0, c1, c2] := by
  match l, h with
  | [c0, c1, c2], _ => exact ⟨c0, c1, c2, rfl⟩
theorem len4 {α : Type} {l : List α} (h : l.length = 4) : ∃ c0 c1 c2 c3, l = [c0, c1, c2, c3] := by
  match l, h with
  | [c0, c1, c2, c3], _ => exact ⟨c0, c1, c2, c3, rfl⟩
theorem len5 {α : Type} {l : List α} (h : l.length = 5) : ∃ c0 c1 c2 c3 c4, l = [c0, c1, c2, c3, c4] := by
  match l, h with
  | [c0, c1, c2, c3, c4], _ => exact ⟨c0, c1, c2, c3, c4, rfl⟩
theorem len6 {α : Type} {l : List α} (h : l.length = 6) : ∃ c0 c1 c2 c3 c4 c5, l = [c0, c1, c2, c3, c4, c5] := by
  match l, h with
  | [c0, c1, c2, c3, c4, c5], _ => exact ⟨c0, c1, c2, c3, c4, c5, rfl⟩
theorem len7 {α : Type} {l : List α} (h : l.length = 7) : ∃ c0 c1 c2 c3 c4 c5 c6, l = [c0, c1, c2, c3, c4, c5, c6] := by
  match l, h with
  | [c0, c1, c2, c3, c4, c5, c6], _ => exact ⟨c0, c1, c2, c3, c4, c5, c6, rfl⟩
theorem len8 {α : Type} {l : List α} (h : l.length = 8) : ∃ c0 c1 c2 c3 c4 c5 c6 c7, l = [c0, c1, c2, c3, c4, c5, c6, c7] := by
  match l, h with
  | [c0, c1, c2, c3, c4, c5, c6, c7], _ => exact ⟨c0, c1, c2, c3, c4, c5, c6, c7, rfl⟩
section
variable {H : Type} {enc : TypeId × Value → H} {P : Program} {w : World} {base : Nat} {spare : Nat → Bool} {held : Bool}

/-- The fields of a struct's cells, each of one cell. -/
theorem fields_of {t : TypeId} {fs : Array Field} {fuel : Nat} {cs : List Value} {x : DataW H × List MemPlace} (hs : P.underlying t = some (.struct fs)) (hone : oneCellFields P fs = true) (hC : P.cellsOf t = fs.size)
    (h : DataW.trod enc P w base spare held fuel t cs = some x) :
    cs.length = fs.size ∧ ∃ n, ∀ (j : Nat) (f : Field) (c : Value), fs[j]? = some f → cs[j]? = some c → ∃ y, DataW.trod enc P w base spare held n f.type [c] = some y := by
  obtain ⟨xs, n, _, _, hlen, hxl, hf⟩ := DataW.trod_struct hs h
  refine ⟨hlen.trans hC, n, fun j f c hj hc => ?_⟩
  obtain ⟨ho, hk⟩ := hone_of hone j f hj
  have h1 := hf j f hj
  have hjl : j < fs.size := (Array.getElem?_eq_some_iff.1 hj).1
  obtain ⟨hjc, hcc⟩ := List.getElem?_eq_some_iff.1 hc
  rw [ho, hk] at h1
  have h2 : (cs.drop j).take 1 = [c] := by
    rw [List.drop_eq_getElem_cons hjc, hcc]
    rfl
  rw [h2, List.getElem?_eq_getElem (by omega : j < xs.length)] at h1
  exact ⟨_, h1⟩

/-- A struct by value, its fields of one cell each. -/
theorem agg_of {r : Reach} {b0 : Nat} {t : TypeId} {fs : Array Field} {v : Value} {d : DataW H} {p : List MemPlace} (hs : P.underlying t = some (.struct fs)) (hone : oneCellFields P fs = true) (hC : P.cellsOf t = fs.size)
    (hv : Value.okWide P w r b0 t v) (h : DataW.Trod enc P w base spare held t v d p) :
    ∃ (l : List Value) (n : Nat), v = .agg l.toArray ∧ l.length = fs.size ∧ ∀ (j : Nat) (f : Field) (c : Value), fs[j]? = some f → l[j]? = some c → ∃ y, DataW.trod enc P w base spare held n f.type [c] = some y := by
  obtain ⟨cs, rfl, hsz⟩ := okWide_struct hs hv
  obtain ⟨fuel, hf⟩ := h
  obtain ⟨l⟩ := cs
  obtain ⟨hl, n, hg⟩ := fields_of hs hone hC hf
  exact ⟨l, n, rfl, hl, hg⟩

theorem int_of {t : TypeId} {k : IntKind} {n : Nat} {c : Value} (ht : P.underlying t = some (.int k)) (h : ∃ y : DataW H × List MemPlace, DataW.trod enc P w base spare held n t [c] = some y) : ∃ a, c = .int k a ∧ (Lit.int k a).wf = true := by
  obtain ⟨y, hy⟩ := h
  obtain ⟨a, e, _, wf⟩ := DataW.trod_int ht hy
  exact ⟨a, by simpa using e, wf⟩

theorem string_of {t : TypeId} {n : Nat} {c : Value} (ht : P.underlying t = some .string) (h : ∃ y : DataW H × List MemPlace, DataW.trod enc P w base spare held n t [c] = some y) : ∃ s : ByteArray, c = .string s ∧ s.size ≤ maxLen := by
  obtain ⟨y, hy⟩ := h
  obtain ⟨s, e, _, hs⟩ := DataW.trod_string ht hy
  exact ⟨s, by simpa using e, hs⟩

/-- A slice that came in, its elements of kind k: what is told of each of them is told of the list. -/
theorem slice_C {α : Type} (k : Kd α) (ok : α → Prop) {t e : TypeId} {fuel : Nat} {A : Option Addr} {len cap : Nat} {x : DataW H × List MemPlace} (ht : P.underlying t = some (.slice e)) (hC : P.cellsOf e = k.sz)
    (hk : ∀ (cs : List Value) (n : Nat) (y : DataW H × List MemPlace), DataW.trod enc P w base spare held n e cs = some y → ∃ z : α, k.K w z cs ∧ ok z)
    (h : DataW.trod enc P w base spare held fuel t [.slice A len cap] = some x) :
    ∃ l : List α, len = l.length ∧ l.length ≤ cap ∧ l.length ≤ maxLen ∧ Kd.C k w A l.length l ∧ ∀ z ∈ l, ok z := by
  rcases open_slice ht h with ⟨hcs, _⟩ | ⟨a, l0, c0, m, n, D, Pl, hcs, _, hl, hm, hmm, _, hi⟩
  · simp at hcs
    obtain ⟨rfl, rfl, rfl⟩ := hcs
    refine ⟨[], rfl, Nat.le_refl _, Nat.zero_le _, ⟨rfl, Nat.zero_le _, fun h0 => absurd h0 (Nat.lt_irrefl _)⟩, fun z hz => by cases hz⟩
  · simp at hcs
    obtain ⟨rfl, rfl, rfl⟩ := hcs
    have hlm : len ≤ m := by rw [hmm]; split <;> omega
    have key : ∀ q, q ≤ len → ∃ l : List α, l.length = q ∧ (∀ z ∈ l, ok z) ∧ ∀ j p, l[j]? = some p → ∃ c, c.length = k.sz ∧ k.K w p c ∧ ∀ i u, c[i]? = some u → w.cell? (a.add (j * k.sz + i)) = some u := by
      intro q
      induction q with
      | zero => exact fun _ => ⟨[], rfl, (fun z hz => by cases hz), (fun j p hj => by simp at hj)⟩
      | succ q ih =>
        intro hq
        obtain ⟨l, hll, hok, hlj⟩ := ih (by omega)
        obtain ⟨cs, hc, htr⟩ := hi q (by omega)
        obtain ⟨z, hz, hoz⟩ := hk cs n _ htr
        obtain ⟨_, hcl, hat⟩ := World.cells?_some hc
        refine ⟨l ++ [z], by simp [hll], fun y hy => ?_, fun j p hj => ?_⟩
        · rcases List.mem_append.1 hy with h' | h'
          · exact hok y h'
          · obtain rfl := List.mem_singleton.1 h'
            exact hoz
        · by_cases hjq : j < l.length
          · rw [List.getElem?_append_left hjq] at hj
            exact hlj j p hj
          · have hjl : j < (l ++ [z]).length := (List.getElem?_eq_some_iff.1 hj).1
            have hje : j = q := by simp at hjl; omega
            subst hje
            rw [List.getElem?_append_right (by omega)] at hj
            have : j - l.length = 0 := by omega
            rw [this] at hj
            simp at hj
            subst hj
            refine ⟨cs, k.K_len hz, hz, fun i u hu => ?_⟩
            obtain ⟨hil, hiu⟩ := List.getElem?_eq_some_iff.1 hu
            have h1 := hat i (by omega)
            rw [hC] at h1
            rw [← Go.Deep.add_add, h1, hu]
    obtain ⟨l, hll, hok, hlj⟩ := key len (Nat.le_refl _)
    refine ⟨l, hll.symm, by omega, by omega, ⟨rfl, by unfold maxLen at hm; omega, fun _ => ⟨a, rfl, hlj⟩⟩, hok⟩
end
end Go.Proofs.Ytlclbdfcniiolaa.Opened
