/- How an argument of a law that came in, whatever slices and structs it is made of, is told as lists and numbers. Plain theorems over any program. -/
import Derived.Test.YtjopmdogdmdanaaWWords
import Derived.Deep.Slices
import Derived.ChangeSame
import Derived.ChangeArms
import Derived.WideShapes
set_option linter.unusedVariables false
namespace Go.Proofs.Ytjopmdogdmdanaa.Open
open Go.RowKit Go.ChangeShapes Go.WideShapes Go.Deep Go.Proofs.YtjopmdogdmdanaaW.PrintWords

/-- Whatever is read as data at type t is told by the kind d, and fits. -/
def Opens {α : Type} (P : Program) (t : TypeId) (d : Kd α) (fits : α → Prop) : Prop :=
  ∀ (H : Type) (enc : TypeId × Value → H) (w : World) (fuel : Nat) (cs : List Value) (x : DataW H × List MemPlace),
    DataW.trod enc P w 0 (fun _ => true) true fuel t cs = some x → ∃ y : α, d.K w y cs ∧ fits y

theorem opens_int {P : Program} {t : TypeId} {k : IntKind} (h : P.underlying t = some (.int k)) : Opens P t (Kd.int k) (fun n => (Lit.int k n).wf = true) := by
  intro H enc w fuel cs x hx
  obtain ⟨n, rfl, _, hw⟩ := DataW.trod_int h hx
  exact ⟨n, rfl, hw⟩

theorem opens_bool {P : Program} {t : TypeId} (h : P.underlying t = some .bool) : Opens P t Kd.bool (fun _ => True) := by
  intro H enc w fuel cs x hx
  obtain ⟨n, rfl, _⟩ := DataW.trod_bool h hx
  exact ⟨n, rfl, trivial⟩

theorem opens_slice {α : Type} {P : Program} {t e : TypeId} {d : Kd α} {fits : α → Prop} (ht : P.underlying t = some (.slice e)) (hc : P.cellsOf e = d.sz) (he : Opens P e d fits) :
    Opens P t (Kd.slice e d) (fun l => l.length ≤ maxLen ∧ ∀ y ∈ l, fits y) := by
  intro H enc w fuel cs x hx
  rcases open_slice ht hx with ⟨rfl, _⟩ | ⟨a, len, cap, m, n, D, Pl, rfl, hb, hl, hm, hmm, _, hi⟩
  · exact ⟨[], ⟨none, 0, rfl, Nat.le_refl _, rfl, by simp, fun h => absurd h (by simp)⟩, by simp, by simp⟩
  · have hm' : m = cap := by simpa using hmm
    have each : ∀ i, i < len → ∃ y : Option α, ∃ z, y = some z ∧ fits z ∧ ∃ c, c.length = d.sz ∧ d.K w z c ∧ ∀ j u, c[j]? = some u → w.cell? (a.add (i * d.sz + j)) = some u := by
      intro i hil
      obtain ⟨cs', h1, h2⟩ := hi i (by omega)
      obtain ⟨y, hk, hw⟩ := he H enc w n cs' _ h2
      obtain ⟨_, hcl, hat⟩ := World.cells?_some h1
      refine ⟨some y, y, rfl, hw, cs', d.K_len hk, hk, fun j u hu => ?_⟩
      have hj : j < cs'.length := (List.getElem?_eq_some_iff.1 hu).1
      rw [← Go.Deep.add_add, ← hc, hat j (by omega)]
      exact hu
    obtain ⟨Y, hY⟩ := choose_lt each
    have all : ∀ k, k ≤ len → ∃ l : List α, l.length = k ∧ ∀ i, i < k → Y i = l[i]? := by
      intro k
      induction k with
      | zero => exact fun _ => ⟨[], rfl, fun i hi => absurd hi (Nat.not_lt_zero _)⟩
      | succ k ih =>
        intro hk
        obtain ⟨l, h1, h2⟩ := ih (by omega)
        obtain ⟨z, hz, _⟩ := hY k (by omega)
        refine ⟨l ++ [z], by simp [h1], fun i hi => ?_⟩
        by_cases e : i = k
        · subst e
          rw [hz, List.getElem?_append_right (by omega), h1]
          simp
        · rw [h2 i (by omega), List.getElem?_append_left (by omega)]
    obtain ⟨l, hll, hlY⟩ := all len (Nat.le_refl _)
    have hlen : len ≤ maxLen := Nat.le_trans hl hm
    refine ⟨l, ⟨some a, cap, by rw [hll], by omega, rfl, by rw [hll]; simpa [maxLen] using hlen, fun hpos => ⟨a, rfl, fun j p hj => ?_⟩⟩, by rw [hll]; exact hlen, fun y hy => ?_⟩
    · have hjl : j < len := by rw [← hll]; exact (List.getElem?_eq_some_iff.1 hj).1
      obtain ⟨z, hz, _, c, h1, h2, h3⟩ := hY j hjl
      have : z = p := by
        rw [hlY j hjl, hj] at hz
        exact (Option.some.inj hz).symm
      subst this
      exact ⟨c, h1, h2, h3⟩
    · obtain ⟨j, hj⟩ := List.mem_iff_getElem?.1 hy
      have hjl : j < len := by rw [← hll]; exact (List.getElem?_eq_some_iff.1 hj).1
      obtain ⟨z, hz, hf, _⟩ := hY j hjl
      have : z = y := by
        rw [hlY j hjl, hj] at hz
        exact (Option.some.inj hz).symm
      exact this ▸ hf

/-- A slice that is a law's argument. -/
theorem slice_arg {α : Type} {H : Type} {enc : TypeId × Value → H} {P : Program} {t e : TypeId} {d : Kd α} {fits : List α → Prop} {w : World} {A : Option Addr} {n c : Nat} {dd : DataW H} {ps : List MemPlace}
    (ho : Opens P t (Kd.slice e d) fits) (h : DataW.Trod enc P w 0 (fun _ => true) true t (.slice A n c) dd ps) : ∃ l : List α, n = l.length ∧ l.length ≤ c ∧ d.C w A l.length l ∧ fits l := by
  obtain ⟨fuel, hf⟩ := h
  obtain ⟨l, ⟨A', c', he, hc, hr⟩, hw⟩ := ho H enc w fuel _ _ hf
  simp [Value.cells] at he
  obtain ⟨rfl, rfl, rfl⟩ := he
  exact ⟨l, rfl, hc, hr, hw⟩
/-- A struct that is a law's argument. -/
theorem agg_arg {α : Type} {H : Type} {enc : TypeId × Value → H} {P : Program} {t : TypeId} {d : Kd α} {fits : α → Prop} {w : World} {cs : Array Value} {dd : DataW H} {ps : List MemPlace}
    (ho : Opens P t d fits) (h : DataW.Trod enc P w 0 (fun _ => true) true t (.agg cs) dd ps) : ∃ x : α, d.K w x cs.toList ∧ fits x := by
  obtain ⟨fuel, hf⟩ := h
  obtain ⟨x, hk, hw⟩ := ho H enc w fuel _ _ hf
  exact ⟨x, by simpa [Value.cells] using hk, hw⟩
theorem list1 (l : List Value) (h : l.length = 1) : ∃ c0 : Value, l = [c0] := by
  match l, h with
  | [z0], _ => exact ⟨_, rfl⟩
theorem list2 (l : List Value) (h : l.length = 2) : ∃ c0 c1 : Value, l = [c0, c1] := by
  match l, h with
  | [z0, z1], _ => exact ⟨_, _, rfl⟩
theorem list3 (l : List Value) (h : l.length = 3) : ∃ c0 c1 c2 : Value, l = [c0, c1, c2] := by
  match l, h with
  | [z0, z1, z2], _ => exact ⟨_, _, _, rfl⟩
theorem list4 (l : List Value) (h : l.length = 4) : ∃ c0 c1 c2 c3 : Value, l = [c0, c1, c2, c3] := by
  match l, h with
  | [z0, z1, z2, z3], _ => exact ⟨_, _, _, _, rfl⟩
theorem list5 (l : List Value) (h : l.length = 5) : ∃ c0 c1 c2 c3 c4 : Value, l = [c0, c1, c2, c3, c4] := by
  match l, h with
  | [z0, z1, z2, z3, z4], _ => exact ⟨_, _, _, _, _, rfl⟩
theorem list6 (l : List Value) (h : l.length = 6) : ∃ c0 c1 c2 c3 c4 c5 : Value, l = [c0, c1, c2, c3, c4, c5] := by
  match l, h with
  | [z0, z1, z2, z3, z4, z5], _ => exact ⟨_, _, _, _, _, _, rfl⟩
theorem list7 (l : List Value) (h : l.length = 7) : ∃ c0 c1 c2 c3 c4 c5 c6 : Value, l = [c0, c1, c2, c3, c4, c5, c6] := by
  match l, h with
  | [z0, z1, z2, z3, z4, z5, z6], _ => exact ⟨_, _, _, _, _, _, _, rfl⟩
end Go.Proofs.Ytjopmdogdmdanaa.Open
