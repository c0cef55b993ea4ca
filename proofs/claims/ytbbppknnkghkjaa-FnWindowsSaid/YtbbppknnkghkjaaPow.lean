/- How many bits are set in a number up to 33023, stage by stage, and that it is one just for the powers of two. -/
import Derived.Test.YtbbppknnkghkjaaCom
import Derived.Laws.Bits64b
import Derived.KernelRfl
import Derived.Laws.BitsLemmas
namespace Go.Proofs.Ytbbppknnkghkjaa.Com
open Go.RowKit Go.Proofs.YtbbppknnkghkjaaW.PrintWords Go.Proofs.YtbbppknnkghkjaaW.PrintMore
set_option linter.unusedVariables false
set_option linter.unusedSimpArgs false

def s1 (a : Int) : Int := IntKind.u64.wrap ((Go.bits .and .u64 (a / 2) 6148914691236517205) + (Go.bits .and .u64 a 6148914691236517205))
def s2 (a : Int) : Int := IntKind.u64.wrap ((Go.bits .and .u64 (a / 4) 3689348814741910323) + (Go.bits .and .u64 a 3689348814741910323))
def s3 (a : Int) : Int := Go.bits .and .u64 (IntKind.u64.wrap ((a / 16) + a)) 1085102592571150095
def s4 (a : Int) : Int := IntKind.u64.wrap (a + (a / 256))
def s5 (a : Int) : Int := IntKind.u64.wrap (a + (a / 65536))
def s6 (a : Int) : Int := IntKind.u64.wrap (a + (a / 4294967296))
def oc64 (a : Int) : Int := Go.bits .and .i64 (wrap64 (s6 (s5 (s4 (s3 (s2 (s1 a))))))) 127

def n1 (a : Nat) : Nat := (a / 2 &&& 6148914691236517205) + (a &&& 6148914691236517205)
def n2 (a : Nat) : Nat := (a / 4 &&& 3689348814741910323) + (a &&& 3689348814741910323)
def n3 (a : Nat) : Nat := (a / 16 + a) &&& 1085102592571150095
def n4 (a : Nat) : Nat := a + a / 256
def n5 (a : Nat) : Nat := a + a / 65536
def n6 (a : Nat) : Nat := a + a / 4294967296
def popN (a : Nat) : Nat := n6 (n5 (n4 (n3 (n2 (n1 a))))) &&& 127
def popF (a : Nat) : Nat :=
  (fun x1 => (fun x2 => (fun x3 => (fun x4 => (fun x5 => Nat.land (Nat.add x5 (Nat.div x5 4294967296)) 127) (Nat.add x4 (Nat.div x4 65536))) (Nat.add x3 (Nat.div x3 256))) (Nat.land (Nat.add (Nat.div x2 16) x2) 1085102592571150095)) (Nat.add (Nat.land (Nat.div x1 4) 3689348814741910323) (Nat.land x1 3689348814741910323))) (Nat.add (Nat.land (Nat.div a 2) 6148914691236517205) (Nat.land a 6148914691236517205))
theorem popN_popF (a : Nat) : popN a = popF a := rfl
def pwF (n : Nat) : Bool := Nat.beq (Nat.pow 2 (Nat.log2 n)) n
def ok1 (n : Nat) : Bool := match Nat.beq (popF n) 1, pwF n with
  | true, true => true
  | false, false => true
  | _, _ => false
def chk : Nat → Nat → Bool
  | 0, lo => ok1 lo
  | k + 1, lo => match chk k lo with
    | true => chk k (Nat.add lo (Nat.pow 2 k))
    | false => false
theorem chk_all : ∀ (k lo : Nat), chk k lo = true → ∀ j, j < 2 ^ k → ok1 (lo + j) = true
  | 0, lo, h, j, hj => by
    obtain rfl : j = 0 := by simpa using hj
    exact h
  | k + 1, lo, h, j, hj => by
    simp only [chk] at h
    split at h
    · rename_i h1
      by_cases hlt : j < 2 ^ k
      · exact chk_all k lo h1 j hlt
      · have h2 := chk_all k (lo + 2 ^ k) h (j - 2 ^ k) (by rw [Nat.pow_succ] at hj; omega)
        rwa [show lo + 2 ^ k + (j - 2 ^ k) = lo + j by omega] at h2
    · cases h

theorem u64_nat (n : Nat) (h : n < 18446744073709551616) : IntKind.u64.wrap (n : Int) = (n : Int) := u64_of (by omega) (by omega)
theorem and_small (a c n : Nat) (h : a < 2 ^ n) : a &&& c < 2 ^ n := Nat.lt_of_le_of_lt Nat.and_le_left h

theorem s1_nat (a : Nat) (h : a < 65536) : s1 (a : Int) = (n1 a : Int) ∧ n1 a < 131072 := by
  have h1 : a / 2 &&& 6148914691236517205 ≤ a / 2 := Nat.and_le_left
  have h2 : a &&& 6148914691236517205 ≤ a := Nat.and_le_left
  unfold s1 n1
  rw [show ((a : Int) / 2) = ((a / 2 : Nat) : Int) from rfl, show (6148914691236517205 : Int) = ((6148914691236517205 : Nat) : Int) from rfl, bits_and_u64_nat _ _ (by omega) (by omega), bits_and_u64_nat _ _ (by omega) (by omega), ← Int.natCast_add, u64_nat _ (by omega)]
  exact ⟨rfl, by omega⟩
theorem s2_nat (a : Nat) (h : a < 131072) : s2 (a : Int) = (n2 a : Int) ∧ n2 a < 262144 := by
  have h1 : a / 4 &&& 3689348814741910323 ≤ a / 4 := Nat.and_le_left
  have h2 : a &&& 3689348814741910323 ≤ a := Nat.and_le_left
  unfold s2 n2
  rw [show ((a : Int) / 4) = ((a / 4 : Nat) : Int) from rfl, show (3689348814741910323 : Int) = ((3689348814741910323 : Nat) : Int) from rfl, bits_and_u64_nat _ _ (by omega) (by omega), bits_and_u64_nat _ _ (by omega) (by omega), ← Int.natCast_add, u64_nat _ (by omega)]
  exact ⟨rfl, by omega⟩
theorem s3_nat (a : Nat) (h : a < 262144) : s3 (a : Int) = (n3 a : Int) ∧ n3 a < 524288 := by
  have h1 : (a / 16 + a) &&& 1085102592571150095 ≤ a / 16 + a := Nat.and_le_left
  unfold s3 n3
  rw [show ((a : Int) / 16) = ((a / 16 : Nat) : Int) from rfl, show (1085102592571150095 : Int) = ((1085102592571150095 : Nat) : Int) from rfl, ← Int.natCast_add, u64_nat _ (by omega), bits_and_u64_nat _ _ (by omega) (by omega)]
  exact ⟨rfl, by omega⟩
theorem s4_nat (a : Nat) (h : a < 524288) : s4 (a : Int) = (n4 a : Int) ∧ n4 a < 1048576 := by
  unfold s4 n4
  rw [show ((a : Int) / 256) = ((a / 256 : Nat) : Int) from rfl, ← Int.natCast_add, u64_nat _ (by omega)]
  exact ⟨rfl, by omega⟩
theorem s5_nat (a : Nat) (h : a < 1048576) : s5 (a : Int) = (n5 a : Int) ∧ n5 a < 2097152 := by
  unfold s5 n5
  rw [show ((a : Int) / 65536) = ((a / 65536 : Nat) : Int) from rfl, ← Int.natCast_add, u64_nat _ (by omega)]
  exact ⟨rfl, by omega⟩
theorem s6_nat (a : Nat) (h : a < 2097152) : s6 (a : Int) = (n6 a : Int) ∧ n6 a < 4194304 := by
  unfold s6 n6
  rw [show ((a : Int) / 4294967296) = ((a / 4294967296 : Nat) : Int) from rfl, ← Int.natCast_add, u64_nat _ (by omega)]
  exact ⟨rfl, by omega⟩
theorem oc64_nat (a : Nat) (h : a < 65536) : oc64 (a : Int) = (popN a : Int) := by
  obtain ⟨e1, h1⟩ := s1_nat a h
  obtain ⟨e2, h2⟩ := s2_nat _ h1
  obtain ⟨e3, h3⟩ := s3_nat _ h2
  obtain ⟨e4, h4⟩ := s4_nat _ h3
  obtain ⟨e5, h5⟩ := s5_nat _ h4
  obtain ⟨e6, h6⟩ := s6_nat _ h5
  unfold oc64 popN
  rw [e1, e2, e3, e4, e5, e6, wr _ (by omega) (by omega), show (127 : Int) = ((127 : Nat) : Int) from rfl]
  exact (bits_nat .i64 62 (by decide) (fun n h0 h1 => by rw [IntKind.wrap_i64]; omega) _ _ (by omega) (by omega)).1
theorem pop_check : chk 15 1 = true := by kernel_rfl
theorem pop_pw (n : Nat) (h0 : 1 ≤ n) (h : n ≤ 32768) : (popN n == 1) = pwF n := by
  have h1 := chk_all 15 1 pop_check (n - 1) (by omega)
  rw [show 1 + (n - 1) = n by omega] at h1
  unfold ok1 at h1
  have h2 : (popN n == 1) = Nat.beq (popF n) 1 := by
    rw [popN_popF]
    generalize popF n = q
    by_cases e : q = 1
    · subst e; rfl
    · rw [beq_eq_false_iff_ne.2 e]
      exact (Bool.eq_false_iff.2 fun hh => e (Nat.eq_of_beq_eq_true hh)).symm
  rw [h2]
  revert h1
  cases Nat.beq (popF n) 1 <;> cases pwF n <;> simp
/-- A power of two up to 2^20, as the loop over the exponents finds it. -/
theorem pwF_iff (n : Nat) (h0 : 1 ≤ n) (h : n ≤ 1048576) : pwF n = true ↔ ∃ j, j ≤ 20 ∧ n = 2 ^ j := by
  unfold pwF
  rw [Nat.beq_eq]
  constructor
  · intro e
    refine ⟨n.log2, ?_, e.symm⟩
    have : n.log2 < 21 := (Nat.log2_lt (by omega)).2 (by omega)
    omega
  · rintro ⟨j, _, rfl⟩
    show 2 ^ (2 ^ j).log2 = 2 ^ j
    rw [Nat.log2_two_pow]
end Go.Proofs.Ytbbppknnkghkjaa.Com
