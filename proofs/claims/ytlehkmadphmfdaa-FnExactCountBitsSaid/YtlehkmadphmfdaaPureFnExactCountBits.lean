/- The pure statement of the law FnExactCountBits: the printed functions of the program and of the reference give the same answers, at every input that the statement's guards let in. -/
import Derived.Test.YtlehkmadphmfdaaPFnExactCountBitsx1
namespace Go.Proofs.Ytlehkmadphmfdaa.Pure
open Go.RowKit Go.Proofs.Ytlehkmadphmfdaa.PFnExactCountBits Go.Proofs.YtlehkmadphmfdaaW.PrintWords Go.Proofs.YtlehkmadphmfdaaW.PrintLast Go.Proofs.YtlehkmadphmfdaaW.PrintMore
theorem w64 {x : Int} (h0 : -9223372036854775808 ≤ x) (h1 : x ≤ 9223372036854775807) : wrap64 x = x := by
  unfold wrap64
  omega
theorem l64 {a : Int} (h : (Lit.int .i64 a).wf = true) : -9223372036854775808 ≤ a ∧ a ≤ 9223372036854775807 := by
  simp only [Lit.wf, IntKind.min, IntKind.max, IntKind.signed, IntKind.bits, Bool.and_eq_true, decide_eq_true_eq, if_true] at h
  omega
theorem rd_nat (l : List Int) (i : Nat) (h : i < l.length) : rd l (i : Int) = l[i] := by
  unfold rd
  rw [List.getD_eq_getElem?_getD, show ((i : Int).toNat) = i by omega, List.getElem?_eq_getElem h]
  rfl
theorem next64 {i : Nat} (h : i ≤ 4611686018427387904) : wrap64 ((i : Int) + 1) = ((i + 1 : Nat) : Int) := by
  rw [w64 (by omega) (by omega)]
  omega

def pc_ : Nat → Nat → Nat
  | 0, _ => 0
  | k + 1, x => x % 2 + pc_ k (x / 2)
def c1_ (x : Nat) : Nat := (x / 2 &&& 6148914691236517205) + (x &&& 6148914691236517205)
def c2_ (x : Nat) : Nat := (x / 4 &&& 3689348814741910323) + (x &&& 3689348814741910323)
def c3_ (x : Nat) : Nat := (x / 16 + x) &&& 1085102592571150095
def c4_ (x : Nat) : Nat := x + x / 256
def c5_ (x : Nat) : Nat := x + x / 65536
def c6_ (x : Nat) : Nat := x + x / 4294967296
def cb_ (x : Nat) : Nat := c6_ (c5_ (c4_ (c3_ (c2_ (c1_ x))))) % 128
def all_ : Nat → Nat → Bool
  | 0, _ => true
  | n + 1, s => Nat.beq (cb_ (s + n)) (pc_ 16 (s + n)) && all_ n s
def alls_ : Nat → Nat → Bool
  | 0, _ => true
  | n + 1, s => all_ 256 (256 * n + s) && alls_ n s
theorem chunk_0 : alls_ 8 0 = true := by decide +kernel
theorem chunk_1 : alls_ 8 2048 = true := by decide +kernel
theorem chunk_2 : alls_ 8 4096 = true := by decide +kernel
theorem chunk_3 : alls_ 8 6144 = true := by decide +kernel
theorem chunk_4 : alls_ 8 8192 = true := by decide +kernel
theorem chunk_5 : alls_ 8 10240 = true := by decide +kernel
theorem chunk_6 : alls_ 8 12288 = true := by decide +kernel
theorem chunk_7 : alls_ 8 14336 = true := by decide +kernel
theorem chunk_8 : alls_ 8 16384 = true := by decide +kernel
theorem chunk_9 : alls_ 8 18432 = true := by decide +kernel
theorem chunk_10 : alls_ 8 20480 = true := by decide +kernel
theorem chunk_11 : alls_ 8 22528 = true := by decide +kernel
theorem chunk_12 : alls_ 8 24576 = true := by decide +kernel
theorem chunk_13 : alls_ 8 26624 = true := by decide +kernel
theorem chunk_14 : alls_ 8 28672 = true := by decide +kernel
theorem chunk_15 : alls_ 8 30720 = true := by decide +kernel
theorem chunk_16 : alls_ 8 32768 = true := by decide +kernel
theorem chunk_17 : alls_ 8 34816 = true := by decide +kernel
theorem chunk_18 : alls_ 8 36864 = true := by decide +kernel
theorem chunk_19 : alls_ 8 38912 = true := by decide +kernel
theorem chunk_20 : alls_ 8 40960 = true := by decide +kernel
theorem chunk_21 : alls_ 8 43008 = true := by decide +kernel
theorem chunk_22 : alls_ 8 45056 = true := by decide +kernel
theorem chunk_23 : alls_ 8 47104 = true := by decide +kernel
theorem chunk_24 : alls_ 8 49152 = true := by decide +kernel
theorem chunk_25 : alls_ 8 51200 = true := by decide +kernel
theorem chunk_26 : alls_ 8 53248 = true := by decide +kernel
theorem chunk_27 : alls_ 8 55296 = true := by decide +kernel
theorem chunk_28 : alls_ 8 57344 = true := by decide +kernel
theorem chunk_29 : alls_ 8 59392 = true := by decide +kernel
theorem chunk_30 : alls_ 8 61440 = true := by decide +kernel
theorem chunk_31 : alls_ 8 63488 = true := by decide +kernel
theorem chunk_all : ∀ i : Nat, i < 32 → alls_ 8 (2048 * i) = true
  | 0, _ => chunk_0
  | 1, _ => chunk_1
  | 2, _ => chunk_2
  | 3, _ => chunk_3
  | 4, _ => chunk_4
  | 5, _ => chunk_5
  | 6, _ => chunk_6
  | 7, _ => chunk_7
  | 8, _ => chunk_8
  | 9, _ => chunk_9
  | 10, _ => chunk_10
  | 11, _ => chunk_11
  | 12, _ => chunk_12
  | 13, _ => chunk_13
  | 14, _ => chunk_14
  | 15, _ => chunk_15
  | 16, _ => chunk_16
  | 17, _ => chunk_17
  | 18, _ => chunk_18
  | 19, _ => chunk_19
  | 20, _ => chunk_20
  | 21, _ => chunk_21
  | 22, _ => chunk_22
  | 23, _ => chunk_23
  | 24, _ => chunk_24
  | 25, _ => chunk_25
  | 26, _ => chunk_26
  | 27, _ => chunk_27
  | 28, _ => chunk_28
  | 29, _ => chunk_29
  | 30, _ => chunk_30
  | 31, _ => chunk_31
  | n + 32, h => absurd h (by omega)
theorem all_le {n s i : Nat} (h : all_ n s = true) (hi : i < n) : cb_ (s + i) = pc_ 16 (s + i) := by
  induction n with
  | zero => omega
  | succ n ih =>
    unfold all_ at h
    rw [Bool.and_eq_true] at h
    by_cases e : i = n
    · subst e
      exact Nat.eq_of_beq_eq_true h.1
    · exact ih h.2 (by omega)
theorem alls_le {n s j i : Nat} (h : alls_ n s = true) (hj : j < n) (hi : i < 256) : cb_ (256 * j + s + i) = pc_ 16 (256 * j + s + i) := by
  induction n with
  | zero => omega
  | succ n ih =>
    unfold alls_ at h
    rw [Bool.and_eq_true] at h
    by_cases e : j = n
    · subst e
      exact all_le h.1 hi
    · exact ih h.2 (by omega)
theorem cb_val (x : Nat) (h : x < 65536) : cb_ x = pc_ 16 x := by
  have := alls_le (n := 8) (s := 2048 * (x / 2048)) (j := x % 2048 / 256) (i := x % 256) (chunk_all (x / 2048) (by omega)) (by omega) (by omega)
  rw [show 256 * (x % 2048 / 256) + 2048 * (x / 2048) + x % 256 = x by omega] at this
  exact this
def i1_ (a : Int) : Int := IntKind.u64.wrap (Go.bits .and .u64 (a / 2) 6148914691236517205 + Go.bits .and .u64 a 6148914691236517205)
def i2_ (a : Int) : Int := IntKind.u64.wrap (Go.bits .and .u64 (a / 4) 3689348814741910323 + Go.bits .and .u64 a 3689348814741910323)
def i3_ (a : Int) : Int := Go.bits .and .u64 (IntKind.u64.wrap (a / 16 + a)) 1085102592571150095
def i4_ (a : Int) : Int := IntKind.u64.wrap (a + a / 256)
def i5_ (a : Int) : Int := IntKind.u64.wrap (a + a / 65536)
def i6_ (a : Int) : Int := IntKind.u64.wrap (a + a / 4294967296)
theorem ones_def (a : Int) : bits_OnesCount64.f a = some (Go.bits .and .i64 (wrap64 (i6_ (i5_ (i4_ (i3_ (i2_ (i1_ a))))))) 127) := rfl
theorem wrap_nat (n : Nat) (h : n < 18446744073709551616) : IntKind.u64.wrap (n : Int) = (n : Int) := by
  rw [show IntKind.u64.wrap (n : Int) = (n : Int) % 18446744073709551616 by simp [IntKind.wrap, IntKind.bits, IntKind.signed]]
  omega
theorem i1_val (x : Nat) (h : x < 18446744073709551616) : i1_ (x : Int) = (c1_ x : Int) ∧ c1_ x < 18446744073709551616 := by
  have b1 : x / 2 &&& 6148914691236517205 ≤ 6148914691236517205 := Nat.and_le_right
  have b2 : x &&& 6148914691236517205 ≤ 6148914691236517205 := Nat.and_le_right
  have e1 := bits_and_u64_nat (x / 2) 6148914691236517205 (by omega) (by omega)
  have e2 := bits_and_u64_nat x 6148914691236517205 (by omega) (by omega)
  rw [Int.natCast_ediv] at e1
  unfold i1_ c1_
  refine ⟨?_, by omega⟩
  have e3 : Go.bits .and .u64 ((x : Int) / 2) 6148914691236517205 = ((x / 2 &&& 6148914691236517205 : Nat) : Int) := e1
  have e4 : Go.bits .and .u64 (x : Int) 6148914691236517205 = ((x &&& 6148914691236517205 : Nat) : Int) := e2
  rw [e3, e4, ← Int.natCast_add, wrap_nat _ (by omega)]
theorem i2_val (x : Nat) (h : x < 18446744073709551616) : i2_ (x : Int) = (c2_ x : Int) ∧ c2_ x < 18446744073709551616 / 2 := by
  have b1 : x / 4 &&& 3689348814741910323 ≤ 3689348814741910323 := Nat.and_le_right
  have b2 : x &&& 3689348814741910323 ≤ 3689348814741910323 := Nat.and_le_right
  have e1 := bits_and_u64_nat (x / 4) 3689348814741910323 (by omega) (by omega)
  have e2 := bits_and_u64_nat x 3689348814741910323 (by omega) (by omega)
  rw [Int.natCast_ediv] at e1
  unfold i2_ c2_
  refine ⟨?_, by omega⟩
  have e3 : Go.bits .and .u64 ((x : Int) / 4) 3689348814741910323 = ((x / 4 &&& 3689348814741910323 : Nat) : Int) := e1
  have e4 : Go.bits .and .u64 (x : Int) 3689348814741910323 = ((x &&& 3689348814741910323 : Nat) : Int) := e2
  rw [e3, e4, ← Int.natCast_add, wrap_nat _ (by omega)]
theorem i3_val (x : Nat) (h : x < 18446744073709551616 / 2) : i3_ (x : Int) = (c3_ x : Int) ∧ c3_ x ≤ 1085102592571150095 := by
  have b1 : x / 16 + x &&& 1085102592571150095 ≤ 1085102592571150095 := Nat.and_le_right
  have e1 := bits_and_u64_nat (x / 16 + x) 1085102592571150095 (by omega) (by omega)
  unfold i3_ c3_
  refine ⟨?_, b1⟩
  rw [show (x : Int) / 16 + (x : Int) = ((x / 16 + x : Nat) : Int) by omega, wrap_nat _ (by omega)]
  exact e1
theorem i456_val (x : Nat) (h : x ≤ 1085102592571150095) : i6_ (i5_ (i4_ (x : Int))) = (c6_ (c5_ (c4_ x)) : Int) ∧ c6_ (c5_ (c4_ x)) < 9223372036854775808 := by
  have e4 : i4_ (x : Int) = (c4_ x : Int) := by
    unfold i4_ c4_
    rw [show (x : Int) + (x : Int) / 256 = ((x + x / 256 : Nat) : Int) by omega, wrap_nat _ (by omega)]
  have b4 : c4_ x ≤ 2 * 1085102592571150095 := by unfold c4_; omega
  generalize c4_ x = y at *
  have e5 : i5_ (y : Int) = (c5_ y : Int) := by
    unfold i5_ c5_
    rw [show (y : Int) + (y : Int) / 65536 = ((y + y / 65536 : Nat) : Int) by omega, wrap_nat _ (by omega)]
  have b5 : c5_ y ≤ 3 * 1085102592571150095 := by unfold c5_; omega
  rw [e4, e5]
  generalize c5_ y = z at *
  unfold i6_ c6_
  rw [show (z : Int) + (z : Int) / 4294967296 = ((z + z / 4294967296 : Nat) : Int) by omega, wrap_nat _ (by omega)]
  exact ⟨rfl, by omega⟩
theorem ones_val (x : Nat) (h : x < 65536) : bits_OnesCount.f (x : Int) = some ((pc_ 16 x : Nat) : Int) := by
  have h1 := i1_val x (by omega)
  have h2 := i2_val (c1_ x) h1.2
  have h3 := i3_val (c2_ (c1_ x)) h2.2
  have h4 := i456_val (c3_ (c2_ (c1_ x))) h3.2
  unfold bits_OnesCount.f
  rw [ones_def, h1.1, h2.1, h3.1, h4.1, i64_and127, w64 (by omega) (by omega), Option.bind_some, ← cb_val x h]
  congr 1
theorem pc_zero : ∀ k, pc_ k 0 = 0 := by
  intro k
  induction k with
  | zero => rfl
  | succ k ih => unfold pc_; simpa using ih
theorem l0_val (k : Nat) : ∀ (x n : Nat), x < 2 ^ k → x < 65536 → n + k < 1000 → spec_CountBits.l0 (k + 1) (x : Int) (n : Int) = some (((n + pc_ k x : Nat) : Int), true) := by
  induction k with
  | zero =>
    intro x n h _ _
    have : x = 0 := by omega
    subst this
    unfold spec_CountBits.l0
    rw [if_neg (by omega)]
    simp [pc_]
  | succ k ih =>
    intro x n h hx hn
    have hp : (2 : Nat) ^ (k + 1) = 2 * 2 ^ k := by rw [Nat.pow_succ]; omega
    unfold spec_CountBits.l0
    by_cases c : x = 0
    · subst c
      rw [if_neg (by omega), pc_zero]
      simp
    · rw [if_pos (by omega)]
      rw [show Int.tdiv (x : Int) 2 = ((x / 2 : Nat) : Int) by rw [Int.tdiv_eq_ediv_of_nonneg (by omega)]; omega, show Int.tmod (x : Int) 2 = ((x % 2 : Nat) : Int) by rw [Int.tmod_eq_emod_of_nonneg (by omega)]; omega, ← Int.natCast_add, w64 (by omega) (by omega), w64 (by omega) (by omega), ih (x / 2) (n + x % 2) (by omega) (by omega) (by omega)]
      rw [show pc_ (k + 1) x = x % 2 + pc_ k (x / 2) from rfl, show n + x % 2 + pc_ k (x / 2) = n + (x % 2 + pc_ k (x / 2)) by omega]
theorem specWord_val (x : Int) : spec_l1Word.f x = some (decide (0 ≤ x ∧ x ≤ 65535)) := by
  unfold spec_l1Word.f spec_l1In.f
  split <;> simp [*] <;> omega
theorem implWord_val (x : Int) : impl_isWord.f x = some (decide (0 ≤ x ∧ x ≤ 65535)) := by
  unfold impl_isWord.f impl_in.f
  split <;> simp [*] <;> omega

theorem FnExactCountBits : laws_FnExactCountBits.Pure := by
  intro a _
  refine ⟨17, ?_⟩
  unfold laws_FnExactCountBits.f spec_CountBits.f impl_CountBits.f
  rw [specWord_val, implWord_val]
  simp only [Option.bind_some]
  by_cases h : 0 ≤ a ∧ a ≤ 65535
  · obtain ⟨x, rfl⟩ : ∃ x : Nat, a = x := ⟨a.toNat, by omega⟩
    have hc := l0_val 16 x 0 (by omega) (by omega) (by omega)
    rw [if_pos (decide_eq_true h), if_pos (decide_eq_true h), wrap_nat x (by omega), ones_val x (by omega)]
    rw [show ((0 : Nat) : Int) = 0 by rfl] at hc
    rw [hc]
    simp
  · have hd : ¬ (decide (0 ≤ a ∧ a ≤ 65535) = true) := by simpa using h
    rw [if_neg hd, if_neg hd]
    simp

end Go.Proofs.Ytlehkmadphmfdaa.Pure
