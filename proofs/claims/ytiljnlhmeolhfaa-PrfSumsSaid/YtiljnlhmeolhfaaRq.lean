/-
  The reference's turning of a word is prf's; the reference's round is prf's; the number of eight bytes is the same.
-/
import Derived.Test.YtiljnlhmeolhfaaRf
import Derived.Test.YtiljnlhmeolhfaaMath
import Derived.Test.YtiljnlhmeolhfaaWideM
namespace Go.Proofs.Ytiljnlhmeolhfaa.MPf
open Go.RowKit Go.Proofs.YtiljnlhmeolhfaaW.PrintWords Go.Proofs.YtiljnlhmeolhfaaW.PrintLast Go.Proofs.YtiljnlhmeolhfaaW.PrintMore
set_option linter.unusedVariables false
set_option linter.unusedSimpArgs false

theorem ofInt64' (a : Int) : (BitVec.ofInt 64 a).toNat = (a % 18446744073709551616).toNat := by
  rw [BitVec.toNat_ofInt]; rfl
theorem or_nat (m q Y : Nat) (hm : m ≤ 64) (hx : 2 ^ m * q < 2 ^ 64) (hy : Y < 2 ^ m) : (2 ^ m * q ||| Y) = 2 ^ m * q + Y ∧ 2 ^ m * q + Y < 2 ^ 64 := by
  refine ⟨(Nat.two_pow_add_eq_or_of_lt hy q).symm, ?_⟩
  have e : 2 ^ 64 = 2 ^ m * 2 ^ (64 - m) := by rw [← Nat.pow_add]; congr 1; omega
  rw [e] at hx ⊢
  have hq : q < 2 ^ (64 - m) := Nat.lt_of_mul_lt_mul_left hx
  calc 2 ^ m * q + Y < 2 ^ m * q + 2 ^ m := by omega
    _ = 2 ^ m * (q + 1) := by rw [Nat.mul_add, Nat.mul_one]
    _ ≤ 2 ^ m * 2 ^ (64 - m) := Nat.mul_le_mul_left _ hq
theorem or_add (m q Y : Nat) (hm : m ≤ 64) (hx : 2 ^ m * q < 2 ^ 64) (hy : Y < 2 ^ m) : Go.bits .or .u64 ((2 ^ m * q : Nat) : Int) (Y : Int) = ((2 ^ m * q + Y : Nat) : Int) := by
  obtain ⟨e, hlt⟩ := or_nat m q Y hm hx hy
  have hY : Y < 2 ^ 64 := by omega
  have e2 : Go.bits .or .u64 ((2 ^ m * q : Nat) : Int) (Y : Int) = IntKind.u64.wrap ((((((2 ^ m * q : Nat) : Int) % 18446744073709551616).toNat ||| ((Y : Int) % 18446744073709551616).toNat : Nat)) : Int) := by
    show IntKind.u64.wrap ((BitVec.ofInt 64 ((2 ^ m * q : Nat) : Int) ||| BitVec.ofInt 64 (Y : Int)).toNat : Int) = _
    rw [BitVec.toNat_or, ofInt64', ofInt64']
  generalize 2 ^ m * q = X at *
  have e3 : ((X : Int) % 18446744073709551616).toNat = X := by omega
  have e4 : ((Y : Int) % 18446744073709551616).toNat = Y := by omega
  rw [e2, e3, e4, e, IntKind.wrap_u64]
  omega
/-- a word turned to the left is a sum -/
theorem rot_add (a : Int) (n : Nat) (h0 : 0 ≤ a) (h1 : a < 18446744073709551616) (hn : n ≤ 64) : rot a (n : Int) = shl .u64 a (n : Int) + shr .u64 a (64 - (n : Int)) ∧ 0 ≤ rot a (n : Int) ∧ rot a (n : Int) < 18446744073709551616 := by
  obtain ⟨A, rfl⟩ : ∃ A : Nat, a = (A : Int) := ⟨a.toNat, by omega⟩
  have hA : A < 2 ^ 64 := by omega
  have es : shl .u64 (A : Int) (n : Int) = ((2 ^ n * (A % 2 ^ (64 - n)) : Nat) : Int) := by
    unfold shl
    rw [show min ((n : Int)).toNat IntKind.u64.bits = n by rw [show IntKind.u64.bits = 64 from rfl]; omega, IntKind.wrap_u64]
    rw [show (A : Int) * 2 ^ n = ((A * 2 ^ n : Nat) : Int) by push_cast; rfl, show (18446744073709551616 : Int) = ((2 ^ n * 2 ^ (64 - n) : Nat) : Int) by rw [← Nat.pow_add, show n + (64 - n) = 64 by omega]; rfl]
    rw [Nat.mul_comm A, ← Int.natCast_emod, Nat.mul_mod_mul_left]
  have er : shr .u64 (A : Int) (64 - (n : Int)) = ((A / 2 ^ (64 - n) : Nat) : Int) := by
    unfold shr
    rw [show min ((64 - (n : Int))).toNat IntKind.u64.bits = 64 - n by rw [show IntKind.u64.bits = 64 from rfl]; omega]
    push_cast
    rfl
  have e64 : 2 ^ 64 = 2 ^ n * 2 ^ (64 - n) := by rw [← Nat.pow_add]; congr 1; omega
  have hx : 2 ^ n * (A % 2 ^ (64 - n)) < 2 ^ 64 := by
    rw [e64]; exact Nat.mul_lt_mul_of_pos_left (Nat.mod_lt _ (Nat.two_pow_pos _)) (Nat.two_pow_pos _)
  have hy : A / 2 ^ (64 - n) < 2 ^ n := by
    rw [Nat.div_lt_iff_lt_mul (Nat.two_pow_pos _), ← e64]; exact hA
  have ho := or_add n (A % 2 ^ (64 - n)) (A / 2 ^ (64 - n)) hn hx hy
  have hlt := (or_nat n (A % 2 ^ (64 - n)) (A / 2 ^ (64 - n)) hn hx hy).2
  unfold rot
  rw [es, er, ho]
  generalize 2 ^ n * (A % 2 ^ (64 - n)) = X at *
  generalize A / 2 ^ (64 - n) = Y at *
  clear ho es er
  refine ⟨by omega, by omega, by omega⟩
theorem turned_eq (a : Int) (n : Nat) (h0 : 0 ≤ a) (h1 : a < 18446744073709551616) (hn : n ≤ 64) : fuseeref23_turned.f a (n : Int) = some (rot a (n : Int)) := by
  obtain ⟨e, l0, l1⟩ := rot_add a n h0 h1 hn
  unfold fuseeref23_turned.f
  have hw : IntKind.u64.wrap (64 - (n : Int)) = 64 - (n : Int) := by rw [IntKind.wrap_u64]; omega
  rw [if_pos (by omega), hw, if_pos (by omega), ← e, IntKind.wrap_u64]
  congr 1; omega
theorem u64_wrap_range (x : Int) : 0 ≤ IntKind.u64.wrap x ∧ IntKind.u64.wrap x < 18446744073709551616 := by rw [IntKind.wrap_u64]; omega
theorem xor_range (x y : Int) : 0 ≤ Go.bits .xor .u64 x y ∧ Go.bits .xor .u64 x y < 18446744073709551616 := by
  have := bounds_u64 (wf_bits .xor .u64 x y); omega
def U4 (s : St4) : Prop := (0 ≤ s.a ∧ s.a < 18446744073709551616) ∧ (0 ≤ s.b ∧ s.b < 18446744073709551616) ∧ (0 ≤ s.c ∧ s.c < 18446744073709551616) ∧ (0 ≤ s.d ∧ s.d < 18446744073709551616)
theorem rot_range (a n : Int) : 0 ≤ rot a n ∧ rot a n < 18446744073709551616 := by
  unfold rot; have := bounds_u64 (wf_bits .or .u64 (shl .u64 a n) (shr .u64 a (64 - n))); omega
theorem rnd_U4 (s : St4) : U4 (rnd s) := ⟨u64_wrap_range _, xor_range _ _, rot_range _ _, xor_range _ _⟩
/-- the reference's round is prf's -/
theorem round_eq (s : St4) (h : U4 s) : fuseeref23_round.f s.a s.b s.c s.d = some ((rnd s).a, (rnd s).b, (rnd s).c, (rnd s).d) := by
  have t13 := turned_eq s.b 13 h.2.1.1 h.2.1.2 (by omega)
  have r1 := u64_wrap_range (s.a + s.b)
  have t32 := turned_eq (IntKind.u64.wrap (s.a + s.b)) 32 r1.1 r1.2 (by omega)
  have t16 := turned_eq s.d 16 h.2.2.2.1 h.2.2.2.2 (by omega)
  have r2 := xor_range (rot s.d 16) (IntKind.u64.wrap (s.c + s.d))
  have t21 := turned_eq _ 21 r2.1 r2.2 (by omega)
  have r3 := xor_range (rot s.b 13) (IntKind.u64.wrap (s.a + s.b))
  have t17 := turned_eq _ 17 r3.1 r3.2 (by omega)
  have r4 := u64_wrap_range (IntKind.u64.wrap (s.c + s.d) + Go.bits .xor .u64 (rot s.b 13) (IntKind.u64.wrap (s.a + s.b)))
  have t32b := turned_eq _ 32 r4.1 r4.2 (by omega)
  change fuseeref23_turned.f s.b 13 = some (rot s.b 13) at t13
  change fuseeref23_turned.f _ 32 = some (rot _ 32) at t32
  change fuseeref23_turned.f s.d 16 = some (rot s.d 16) at t16
  change fuseeref23_turned.f _ 21 = some (rot _ 21) at t21
  change fuseeref23_turned.f _ 17 = some (rot _ 17) at t17
  change fuseeref23_turned.f _ 32 = some (rot _ 32) at t32b
  unfold fuseeref23_round.f
  rw [t13, Option.bind_some, t32, Option.bind_some, t16, Option.bind_some, t21, Option.bind_some, t17, Option.bind_some, t32b, Option.bind_some]
  rfl
/-- the number of eight bytes is the same -/
theorem nstep_eq (v c : Int) (hv : 0 ≤ v) (hv1 : v < 18446744073709551616) (hc : 0 ≤ c) (hc1 : c < 256) : nstep v c = refStep v c ∧ 0 ≤ nstep v c ∧ nstep v c < 18446744073709551616 := by
  have hb := bounds_u64 (wf_bits .or .u64 (IntKind.u64.wrap (v * 256)) (IntKind.u64.wrap c))
  refine ⟨?_, by unfold nstep; omega, by unfold nstep; omega⟩
  unfold nstep refStep
  have hw : IntKind.u64.wrap c = c := by rw [IntKind.wrap_u64]; omega
  obtain ⟨q, hq⟩ : ∃ q : Nat, IntKind.u64.wrap (v * 256) = ((2 ^ 8 * q : Nat) : Int) := ⟨(IntKind.u64.wrap (v * 256) / 256).toNat, by rw [IntKind.wrap_u64]; omega⟩
  have hr := u64_wrap_range (v * 256)
  obtain ⟨C, rfl⟩ : ∃ C : Nat, c = (C : Int) := ⟨c.toNat, by omega⟩
  rw [hw, Int.mul_comm 256 v, hq]
  rw [hq] at hr
  rw [or_add 8 q C (by omega) (by omega) (by omega), IntKind.wrap_u64]
  have hlt := (or_nat 8 q C (by omega) (by omega) (by omega)).2
  clear hb hq
  generalize 2 ^ 8 * q = X at *
  omega
theorem fold_eq : ∀ (l : List Int) (v : Int), 0 ≤ v → v < 18446744073709551616 → (∀ c ∈ l, 0 ≤ c ∧ c < 256) → l.foldl nstep v = l.foldl refStep v ∧ 0 ≤ l.foldl nstep v ∧ l.foldl nstep v < 18446744073709551616
  | [], v, h0, h1, _ => ⟨rfl, h0, h1⟩
  | c :: l, v, h0, h1, h => by
    obtain ⟨e, e0, e1⟩ := nstep_eq v c h0 h1 (h c (by simp)).1 (h c (by simp)).2
    have ih := fold_eq l (nstep v c) e0 e1 (fun x hx => h x (by simp [hx]))
    simp only [List.foldl_cons]
    rw [← e]
    exact ih
theorem word_eq (l : List Int) (hl : l.length = 8) (hc : ∀ c ∈ l, 0 ≤ c ∧ c < 256) : wordV l = refW l ∧ 0 ≤ refW l ∧ refW l < 18446744073709551616 := by
  have h := fold_eq l.reverse 0 (by omega) (by omega) (fun c hm => hc c (by simpa using hm))
  have e1 : rdNum l false 8 = l.reverse.foldl nstep 0 := by
    unfold rdNum
    rw [if_neg (by simp; omega), List.take_of_length_le (by omega)]
    rfl
  have e2 : refW l = l.reverse.foldl nstep 0 := by unfold refW refFrom; rw [List.drop_zero, h.1]
  refine ⟨?_, by rw [e2]; exact h.2.1, by rw [e2]; exact h.2.2⟩
  unfold wordV
  rw [e1, e2]
  generalize l.reverse.foldl nstep 0 = x at *
  unfold wrap64
  rw [IntKind.wrap_u64]
  omega
end Go.Proofs.Ytiljnlhmeolhfaa.MPf
