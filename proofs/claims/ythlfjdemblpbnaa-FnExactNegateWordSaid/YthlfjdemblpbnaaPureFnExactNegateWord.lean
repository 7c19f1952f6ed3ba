/- The pure statement of the law FnExactNegateWord: the printed functions of the program and of the reference give the same answers, at every input that the statement's guards let in. -/
import Derived.Test.YthlfjdemblpbnaaPFnExactNegateWordx1
namespace Go.Proofs.Ythlfjdemblpbnaa.Pure
open Go.RowKit Go.Proofs.Ythlfjdemblpbnaa.PFnExactNegateWord Go.Proofs.YthlfjdemblpbnaaW.PrintWords Go.Proofs.YthlfjdemblpbnaaW.PrintLast Go.Proofs.YthlfjdemblpbnaaW.PrintMore
theorem l64 {a : Int} (h : (Lit.int .i64 a).wf = true) : -9223372036854775808 ≤ a ∧ a ≤ 9223372036854775807 := by
  simp only [Lit.wf, IntKind.min, IntKind.max, IntKind.signed, IntKind.bits, Bool.and_eq_true, decide_eq_true_eq, if_true] at h
  omega
theorem lwrap_val (a : Int) : Int.tmod (wrap64 ((Int.tmod a 65536) + 65536)) 65536 = a % 65536 := by
  unfold wrap64
  have h1 := Int.tmod_eq_emod (a := a) (b := 65536)
  have h2 : ∀ x : Int, 0 ≤ x → Int.tmod x 65536 = x % 65536 := fun x hx => Int.tmod_eq_emod_of_nonneg hx
  split at h1 <;> (rw [h2 _ (by omega)]; omega)
theorem and65535 {a : Int} (h : -9223372036854775808 ≤ a ∧ a ≤ 9223372036854775807) : Go.bits .and .i64 a 65535 = a % 65536 := by
  have e : BitVec.ofInt 64 a &&& BitVec.ofInt 64 65535 = BitVec.ofInt 64 (a % 65536) := by
    apply BitVec.eq_of_toNat_eq
    rw [BitVec.toNat_and]
    have h1 : (BitVec.ofInt 64 (65535 : Int)).toNat = 2 ^ 16 - 1 := by decide
    rw [h1, Nat.and_two_pow_sub_one_eq_mod]
    simp only [BitVec.toNat_ofInt]
    omega
  show IntKind.i64.wrap ((BitVec.ofInt 64 a &&& BitVec.ofInt 64 65535).toNat : Int) = _
  rw [e, BitVec.toNat_ofInt, IntKind.wrap_i64]
  omega

theorem FnExactNegateWord : laws_FnExactNegateWord.Pure := by
  intro a h
  have e : impl_NegateWord.f a = spec_NegateWord.f a := by
    have w := l64 (wrap64_wf (-a))
    simp only [impl_NegateWord.f, spec_NegateWord.f, impl_isWord.f, spec_l1Word.f, impl_in.f, spec_l1In.f, impl_WordOf.f, spec_l1Wrap.f, lwrap_val, and65535 w]
  unfold laws_FnExactNegateWord.f
  rw [e]
  cases hs : spec_NegateWord.f a with
  | none =>
    exfalso
    unfold spec_NegateWord.f spec_l1Word.f spec_l1In.f spec_l1Wrap.f at hs
    revert hs
    split <;> simp only [Option.bind_some] <;> split <;> simp
  | some r => simp

end Go.Proofs.Ythlfjdemblpbnaa.Pure
