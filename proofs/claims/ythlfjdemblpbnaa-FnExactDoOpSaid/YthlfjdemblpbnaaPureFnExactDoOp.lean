/- The pure statement of the law FnExactDoOp: the printed functions of the program and of the reference give the same answers, at every input that the statement's guards let in. -/
import Derived.Test.YthlfjdemblpbnaaPFnExactDoOpx1
namespace Go.Proofs.Ythlfjdemblpbnaa.Pure
open Go.RowKit Go.Proofs.Ythlfjdemblpbnaa.PFnExactDoOp Go.Proofs.YthlfjdemblpbnaaW.PrintWords Go.Proofs.YthlfjdemblpbnaaW.PrintLast Go.Proofs.YthlfjdemblpbnaaW.PrintMore
theorem l64 {a : Int} (h : (Lit.int .i64 a).wf = true) : -9223372036854775808 ≤ a ∧ a ≤ 9223372036854775807 := by
  simp only [Lit.wf, IntKind.min, IntKind.max, IntKind.signed, IntKind.bits, Bool.and_eq_true, decide_eq_true_eq, if_true] at h
  omega
theorem lwrap_val (a : Int) : Int.tmod (wrap64 ((Int.tmod a 65536) + 65536)) 65536 = a % 65536 := by
  unfold wrap64
  have h1 := Int.tmod_eq_emod (a := a) (b := 65536)
  have h2 : ∀ x : Int, 0 ≤ x → Int.tmod x 65536 = x % 65536 := fun x hx => Int.tmod_eq_emod_of_nonneg hx
  split at h1 <;> (rw [h2 _ (by omega)]; omega)
theorem and65535 {a : Int} (h : -9223372036854775808 ≤ a ∧ a ≤ 9223372036854775807) : Go.bits .and .i64 a 65535 = a % 65536 := by
  have e : BitVec.ofInt 64 a &&& BitVec.ofInt 64 65535 = BitVec.ofInt 64 (a % 65536) := by
    apply BitVec.eq_of_toNat_eq
    rw [BitVec.toNat_and]
    have h1 : (BitVec.ofInt 64 (65535 : Int)).toNat = 2 ^ 16 - 1 := by decide
    rw [h1, Nat.and_two_pow_sub_one_eq_mod]
    simp only [BitVec.toNat_ofInt]
    omega
  show IntKind.i64.wrap ((BitVec.ofInt 64 a &&& BitVec.ofInt 64 65535).toNat : Int) = _
  rw [e, BitVec.toNat_ofInt, IntKind.wrap_i64]
  omega

theorem shl_wf (x y : Int) : (Lit.int .i64 (shl .i64 x y)).wf = true := by
  unfold shl
  rw [IntKind.wrap_i64]
  have h := wrap64_wf (x * 2 ^ min y.toNat IntKind.i64.bits)
  unfold wrap64 at h
  exact h
theorem mod16 (b : Int) (h : 0 ≤ b) : IntKind.u64.wrap (Int.tmod b 16) = Int.tmod b 16 := by
  rw [Int.tmod_eq_emod_of_nonneg h]
  simp [IntKind.wrap, IntKind.bits, IntKind.signed]
  omega
theorem mod16_nonneg (b : Int) (h : 0 ≤ b) : 0 ≤ Int.tmod b 16 := by
  rw [Int.tmod_eq_emod_of_nonneg h]; omega
theorem do_same (op a b : Int) (hb : 0 ≤ b) : impl_do.f op a b = spec_l1Do.f op a b := by
  have w := fun x => and65535 (l64 (wrap64_wf x))
  have w2 := fun x y => and65535 (l64 (shl_wf x y))
  simp only [impl_do.f, spec_l1Do.f, impl_WordOf.f, spec_l1Wrap.f, lwrap_val, w, w2, mod16 b hb]
theorem do_some (op a b : Int) (hb : 0 ≤ b) : ∃ y, spec_l1Do.f op a b = some y := by
  have h0 := mod16_nonneg b hb
  simp only [spec_l1Do.f, spec_l1Wrap.f, mod16 b hb, Option.bind_some, if_pos h0]
  repeat' split
  all_goals exact ⟨_, rfl⟩
theorem word_val (x : Int) : spec_l1Word.f x = some (decide (0 ≤ x ∧ x ≤ 65535)) := by
  unfold spec_l1Word.f spec_l1In.f
  split <;> simp [*] <;> omega
theorem doop_val (op a b : Int) : (∃ r, spec_DoOp.f op a b = some r) ∧ impl_DoOp.f op a b = spec_DoOp.f op a b := by
  have e1 : impl_isWord.f = spec_l1Word.f := rfl
  have e2 : ∀ x, impl_isOp.f x = spec_l1In.f x 1 10 := by
    intro x
    unfold impl_isOp.f impl_in.f spec_l1In.f
    split <;> rfl
  have e3 : ∃ z, spec_l1In.f op 1 10 = some z := by
    unfold spec_l1In.f
    split <;> exact ⟨_, rfl⟩
  obtain ⟨z, hz⟩ := e3
  unfold impl_DoOp.f spec_DoOp.f
  simp only [e1, e2, hz, word_val, Option.bind_some]
  by_cases hb : 0 ≤ b
  · obtain ⟨y, hy⟩ := do_some op a b hb
    simp only [do_same op a b hb, hy, Option.bind_some, and_true]
    repeat' split
    all_goals exact ⟨_, rfl⟩
  · have hf : ¬ (decide (0 ≤ b ∧ b ≤ 65535) = true) := by simp; omega
    simp only [if_neg hf, and_true]
    repeat' split
    all_goals exact ⟨_, rfl⟩

theorem FnExactDoOp : laws_FnExactDoOp.Pure := by
  intro op a b _ _ _
  obtain ⟨⟨r, hr⟩, e⟩ := doop_val op a b
  unfold laws_FnExactDoOp.f
  rw [e, hr]
  simp

end Go.Proofs.Ythlfjdemblpbnaa.Pure
