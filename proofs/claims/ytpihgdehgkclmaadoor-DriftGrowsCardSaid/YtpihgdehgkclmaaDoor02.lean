/-
  The reference's numbers of 256 bits, walked: each function by the numbers it tells of.
-/
import Derived.Test.YtpihgdehgkclmaaDoorK
import Derived.Test.YtpihgdehgkclmaaDoorRow
import Derived.Test.YtpihgdehgkclmaaDoorWLast
import Derived.Test.YtpihgdehgkclmaaDoorWMore
import Derived.Test.YtpihgdehgkclmaaDoorWGuard
import Derived.Deep.RegionHeld3
import Derived.Deep.DeepCutAuto
import Derived.Deep.CutBlock
import Derived.LoopTactic
namespace Go.Proofs.YtpihgdehgkclmaaDoor.Big
open Go.RowKit Go.Proofs.YtpihgdehgkclmaaDoorW.PrintWords Go.Proofs.YtpihgdehgkclmaaDoorW.PrintLast Go.Proofs.YtpihgdehgkclmaaDoorW.PrintMore
set_option linter.unusedVariables false
set_option linter.unusedSimpArgs false
/-- what a digit stays below, to a power -/
def P (i : Nat) : Nat := 4294967296 ^ i
theorem P_succ (i : Nat) : P (i + 1) = P i * 4294967296 := by unfold P; rw [Nat.pow_succ]
theorem P_pos (i : Nat) : 0 < P i := Nat.pow_pos (by decide)
theorem P_zero : P 0 = 1 := rfl
theorem P_add (i j : Nat) : P (i + j) = P i * P j := Nat.pow_add ..
/-- a digit -/
def dn (n i : Nat) : Nat := n / P i % 4294967296
theorem dn_lt (n i : Nat) : dn n i < 4294967296 := Nat.mod_lt _ (by decide)
theorem mod_succ (n i : Nat) : n % P (i + 1) = n % P i + P i * dn n i := by
  rw [P_succ, Nat.mod_mul]; rfl
/-- what is carried into digit i -/
def cy (a b c i : Nat) : Nat := (a % P i + b % P i + c) / P i
theorem cy_zero (a b c : Nat) : cy a b c 0 = c := by simp [cy, P_zero, Nat.mod_one]
theorem cy_le (a b c i : Nat) (hc : c ≤ 1) : cy a b c i ≤ 1 := by
  unfold cy
  have h := P_pos i
  have h1 := Nat.mod_lt a h
  have h2 := Nat.mod_lt b h
  have : a % P i + b % P i + c < 2 * P i := by omega
  have := Nat.div_lt_of_lt_mul (show a % P i + b % P i + c < P i * 2 by omega)
  omega
theorem cy_succ (a b c i : Nat) : cy a b c (i + 1) = (dn a i + dn b i + cy a b c i) / 4294967296 := by
  unfold cy
  rw [mod_succ, mod_succ, P_succ, ← Nat.div_div_eq_div_mul]
  congr 1
  rw [show a % P i + P i * dn a i + (b % P i + P i * dn b i) + c = (a % P i + b % P i + c) + P i * (dn a i + dn b i) by rw [Nat.mul_add]; omega, Nat.add_mul_div_left _ _ (P_pos i)]
  omega
theorem dn_add (a b c i : Nat) : dn (a + b + c) i = (dn a i + dn b i + cy a b c i) % 4294967296 := by
  unfold dn cy
  have h : (a + b + c) / P i = a / P i + b / P i + (a % P i + b % P i + c) / P i := by
    have e1 := Nat.div_add_mod a (P i)
    have e2 := Nat.div_add_mod b (P i)
    have : a + b + c = (a % P i + b % P i + c) + P i * (a / P i + b / P i) := by rw [Nat.mul_add]; omega
    rw [this, Nat.add_mul_div_left _ _ (P_pos i)]
    omega
  rw [h]; omega
/-- a round of a difference: a = d + b -/
theorem less_round (d b i : Nat) : 4294967296 + dn (d + b) i - dn b i - cy d b 0 i = (if cy d b 0 (i + 1) = 0 then 4294967296 + dn d i else dn d i) := by
  have h1 := dn_add d b 0 i
  have h2 := cy_succ d b 0 i
  have h3 := cy_le d b 0 (i + 1) (by omega)
  have h4 := dn_lt d i
  have h5 := dn_lt b i
  rw [Nat.add_zero] at h1
  split <;> omega
theorem eq_of_dn {a b : Nat} (h : ∀ j, dn a j = dn b j) (k : Nat) : a % P k = b % P k := by
  induction k with
  | zero => simp [P_zero, Nat.mod_one]
  | succ k ih => rw [mod_succ, mod_succ, ih, h]
/-- above a place both are alike -/
theorem div_succ (a i : Nat) : a / P i = 4294967296 * (a / P (i + 1)) + dn a i := by
  rw [P_succ, ← Nat.div_div_eq_div_mul]; unfold dn; omega
theorem lt_of_dn {a b i : Nat} (h : a / P (i + 1) = b / P (i + 1)) (hd : dn a i < dn b i) : a < b := by
  have h1 := div_succ a i
  have h2 := div_succ b i
  have h3 : a / P i < b / P i := by omega
  have e1 := Nat.div_add_mod a (P i)
  have e2 := Nat.div_add_mod b (P i)
  have := Nat.mod_lt a (P_pos i)
  have h5 : P i * (a / P i + 1) ≤ P i * (b / P i) := Nat.mul_le_mul_left _ h3
  rw [Nat.mul_add] at h5
  omega
theorem div_eq_of_dn {a b i : Nat} (h : a / P (i + 1) = b / P (i + 1)) (hd : dn a i = dn b i) : a / P i = b / P i := by
  rw [div_succ a i, div_succ b i, h, hd]
/-- rounds of a product: what has come of row i up to column k -/
def ml (M z y i k : Nat) : Nat := M % P (i + k) + P i * z * (y % P k)
theorem ml_zero (M z y i : Nat) : ml M z y i 0 = M % P i := by simp [ml, P_zero, Nat.mod_one]
def mc (M z y i k : Nat) : Nat := ml M z y i k / P (i + k)
theorem mc_zero (M z y i : Nat) : mc M z y i 0 = 0 := by
  unfold mc; rw [ml_zero]; exact Nat.div_eq_of_lt (Nat.mod_lt _ (P_pos i))
theorem ml_succ (M z y i k : Nat) : ml M z y i (k + 1) = ml M z y i k + P (i + k) * (dn M (i + k) + z * dn y k) := by
  unfold ml
  rw [← Nat.add_assoc, mod_succ, mod_succ, Nat.mul_add, Nat.mul_add, P_add]
  have : P i * z * (P k * dn y k) = P i * P k * (z * dn y k) := by ac_rfl
  omega
theorem mc_succ (M z y i k : Nat) : mc M z y i (k + 1) = (z * dn y k + dn M (i + k) + mc M z y i k) / 4294967296 := by
  unfold mc
  rw [ml_succ, ← Nat.add_assoc, P_succ, ← Nat.div_div_eq_div_mul, Nat.add_mul_div_left _ _ (P_pos _)]
  congr 1
  omega
theorem mc_lt (M z y i k : Nat) (hz : z < 4294967296) : mc M z y i k < 4294967296 := by
  induction k with
  | zero => rw [mc_zero]; omega
  | succ k ih =>
    rw [mc_succ]
    have h1 := dn_lt y k
    have h2 := dn_lt M (i + k)
    have h3 : z * dn y k ≤ 4294967295 * 4294967295 := Nat.mul_le_mul (by omega) (by omega)
    omega
theorem mul_round (z d e c : Nat) (hz : z < 4294967296) (hd : d < 4294967296) (he : e < 4294967296) (hc : c < 4294967296) : z * d + e + c < 18446744073709551616 := by
  have h3 : z * d ≤ 4294967295 * 4294967295 := Nat.mul_le_mul (by omega) (by omega)
  omega
theorem dn_of_mod {a b i : Nat} (h : a % P (i + 1) = b % P (i + 1)) : dn a i = dn b i := by
  have h1 := mod_succ a i
  have h2 := mod_succ b i
  have h3 := Nat.mod_lt a (P_pos i)
  have h4 := Nat.mod_lt b (P_pos i)
  have e1 : (a % P (i + 1)) / P i = dn a i := by rw [h1, Nat.add_mul_div_left _ _ (P_pos i), Nat.div_eq_of_lt h3]; omega
  have e2 : (b % P (i + 1)) / P i = dn b i := by rw [h2, Nat.add_mul_div_left _ _ (P_pos i), Nat.div_eq_of_lt h4]; omega
  rw [← e1, ← e2, h]
theorem ml_mod (M z y i k : Nat) : ml M z y i k % P (i + k) = (M + P i * z * y) % P (i + k) := by
  unfold ml
  have h := Nat.div_add_mod y (P k)
  have : M + P i * z * y = M + P i * z * (y % P k) + P (i + k) * (z * (y / P k)) := by
    rw [P_add]
    have e : P i * z * y = P i * z * (P k * (y / P k)) + P i * z * (y % P k) := by rw [← Nat.mul_add, h]
    have e2 : P i * z * (P k * (y / P k)) = P i * P k * (z * (y / P k)) := by ac_rfl
    omega
  rw [this, Nat.add_mul_mod_self_left, Nat.add_mod, Nat.mod_mod, ← Nat.add_mod]
theorem mul_digit (M z y i k : Nat) : dn (M + P i * z * y) (i + k) = (z * dn y k + dn M (i + k) + mc M z y i k) % 4294967296 := by
  have h := ml_mod M z y i (k + 1)
  rw [← dn_of_mod (a := ml M z y i (k + 1)) (i := i + k) h]
  unfold dn
  rw [ml_succ, Nat.add_mul_div_left _ _ (P_pos _)]
  unfold mc dn
  congr 1
  omega
/-- the last column -/
theorem mul_last (M z y i k : Nat) (hM : M < P (i + k)) (hy : y < P k) : mc M z y i k = (M + P i * z * y) / P (i + k) := by
  unfold mc ml
  rw [Nat.mod_eq_of_lt hM, Nat.mod_eq_of_lt hy]
theorem mul_bound (x y i k : Nat) (hy : y < P k) (z : Nat) (hx : x < P i) (hz : z < 4294967296) : x * y + P i * z * y < P (i + k + 1) := by
  have h1 : (x + P i * z) < P (i + 1) := by
    rw [P_succ]
    have := Nat.mul_le_mul_left (P i) (show z ≤ 4294967295 by omega)
    omega
  have h2 : (x + P i * z) * y < P (i + 1) * P k := by
    rcases Nat.eq_zero_or_pos y with rfl | h0
    · simp; exact Nat.mul_pos (P_pos _) (P_pos _)
    · exact Nat.mul_lt_mul_of_lt_of_le h1 (Nat.le_of_lt hy) (P_pos _)
  rw [Nat.add_mul] at h2
  rw [show i + k + 1 = (i + 1) + k by omega, P_add]
  exact h2
theorem dn_zero_of_lt {n i : Nat} (h : n < P i) : dn n i = 0 := by unfold dn; rw [Nat.div_eq_of_lt h]
theorem P_mono {i j : Nat} (h : i ≤ j) : P i ≤ P j := Nat.pow_le_pow_right (by decide) h
theorem dn_eq_div {n i : Nat} (h : n < P (i + 1)) : dn n i = n / P i := by
  unfold dn; rw [Nat.mod_eq_of_lt]; rw [P_succ] at h; exact Nat.div_lt_of_lt_mul h
/-- bit by bit -/
theorem div_bit (X i D : Nat) (hD : 0 < D) : (X / 2 ^ i) / D = 2 * ((X / 2 ^ (i + 1)) / D) + (if D ≤ 2 * ((X / 2 ^ (i + 1)) % D) + X / 2 ^ i % 2 then 1 else 0) ∧ (X / 2 ^ i) % D = 2 * ((X / 2 ^ (i + 1)) % D) + X / 2 ^ i % 2 - (if D ≤ 2 * ((X / 2 ^ (i + 1)) % D) + X / 2 ^ i % 2 then D else 0) := by
  have e : X / 2 ^ i = 2 * (X / 2 ^ (i + 1)) + X / 2 ^ i % 2 := by rw [Nat.pow_succ, ← Nat.div_div_eq_div_mul]; omega
  generalize X / 2 ^ (i + 1) = A at e ⊢
  have hb : X / 2 ^ i % 2 < 2 := Nat.mod_lt _ (by decide)
  generalize X / 2 ^ i % 2 = b at e hb ⊢
  have h1 := Nat.div_add_mod A D
  have h2 := Nat.mod_lt A hD
  rw [e]
  generalize A / D = q at h1 ⊢
  generalize A % D = r at h1 h2 ⊢
  have h3 : 2 * A + b = (2 * r + b) + D * (2 * q) := by
    have : D * (2 * q) = 2 * (D * q) := by ac_rfl
    omega
  rw [h3, Nat.add_mul_div_left _ _ hD, Nat.add_mul_mod_self_left]
  split
  · have : 2 * r + b = (2 * r + b - D) + D * 1 := by omega
    rw [this, Nat.add_mul_div_left _ _ hD, Nat.add_mul_mod_self_left, Nat.div_eq_of_lt (by omega), Nat.mod_eq_of_lt (by omega)]
    constructor <;> omega
  · rw [Nat.div_eq_of_lt (by omega), Nat.mod_eq_of_lt (by omega)]
    constructor <;> omega
theorem P8 : P 8 = 115792089237316195423570985008687907853269984665640564039457584007913129639936 := by decide
/-- digits of two numbers: below a place of one, from it on of the other -/
def mix (s a i : Nat) : Nat → Nat := fun j => if j < i then dn s j else dn a j
theorem mix_zero (s a : Nat) : mix s a 0 = dn a := by funext j; simp [mix]

theorem less_fin (N dd : Int) (cc : Nat) (h0 : 0 ≤ dd) (h1 : dd < 4294967296) (hc : cc ≤ 1) (hN : N = if cc = 0 then 4294967296 + dd else dd) : 1 - N / 4294967296 = (cc : Int) ∧ N % 4294967296 = dd := by
  by_cases h : cc = 0
  · rw [if_pos h] at hN; omega
  · rw [if_neg h] at hN; omega
/-- eight cells -/
def c8 (f : Nat → Nat) : Array Value := #[.int .u64 (f 0), .int .u64 (f 1), .int .u64 (f 2), .int .u64 (f 3), .int .u64 (f 4), .int .u64 (f 5), .int .u64 (f 6), .int .u64 (f 7)]
theorem c8_size (f : Nat → Nat) : (c8 f).size = 8 := rfl
theorem c8_get (f : Nat → Nat) {i : Nat} (h : i < 8) : (c8 f)[i]? = some (.int .u64 (f i)) := by
  have : i = 0 ∨ i = 1 ∨ i = 2 ∨ i = 3 ∨ i = 4 ∨ i = 5 ∨ i = 6 ∨ i = 7 := by omega
  rcases this with rfl | rfl | rfl | rfl | rfl | rfl | rfl | rfl <;> rfl
theorem c8_congr {f g : Nat → Nat} (h : ∀ j, j < 8 → f j = g j) : c8 f = c8 g := by
  unfold c8
  rw [h 0 (by omega), h 1 (by omega), h 2 (by omega), h 3 (by omega), h 4 (by omega), h 5 (by omega), h 6 (by omega), h 7 (by omega)]
theorem c8_set (f g : Nat → Nat) {i v : Nat} (h : i < 8) (hv : g i = v) (hg : ∀ j, j ≠ i → g j = f j) : (c8 f).setIfInBounds i (.int .u64 (v : Int)) = c8 g := by
  subst hv
  have h' : i = 0 ∨ i = 1 ∨ i = 2 ∨ i = 3 ∨ i = 4 ∨ i = 5 ∨ i = 6 ∨ i = 7 := by omega
  have e : c8 g = c8 (fun j => if j = i then g i else f j) := c8_congr (fun j _ => by by_cases hj : j = i <;> simp [hj]; exact hg j hj)
  rw [e]
  rcases h' with rfl | rfl | rfl | rfl | rfl | rfl | rfl | rfl <;> rfl
abbrev z8 : Array Value := #[.int .u64 0, .int .u64 0, .int .u64 0, .int .u64 0, .int .u64 0, .int .u64 0, .int .u64 0, .int .u64 0]
theorem z8_eq : z8 = c8 (dn 0) := by simp [z8, c8, dn]
theorem new1 (w : World) (o1 o2 : Obj) : ((w.alloc o1).alloc o2).heap[w.heap.size + 1]? = some o2 := by
  have := heap_alloc_new (w.alloc o1) o2
  simpa using this
theorem new2 (w : World) (o1 o2 o3 : Obj) : (((w.alloc o1).alloc o2).alloc o3).heap[w.heap.size + 1 + 1]? = some o3 := by
  have := heap_alloc_new ((w.alloc o1).alloc o2) o3
  simpa using this
section
variable {P : Program} {ops : Array Oper} {rest : List Oper} {o : Oper} {a : Act} {w : World} {Q : Exit → Act → World → Prop}
theorem get8 (hgd : o.guard = none) {ty : TypeId} {x : Operand} (ho : o.op = .load ty x) (g : Nat) (t : TypeId) (f : Nat → Nat) (d : TypeDesc) (hx : a.eval x = .pointer (some ⟨g, 0, none⟩)) (hg : w.heap[g]? = some (.cells (c8 f) t (0, 0))) (hu : P.underlying ty = some d) (hd : (match d with | .struct _ | .array _ _ => true | _ => false) = true) (hi : (P.info? ty).map (·.size) = some 8) (h : wpList P ops Q rest (a.put o.dst (.agg (c8 f))) w) : wpList P ops Q (o :: rest) a w :=
  rowget_event hgd ho g 0 t (c8 f) (c8 f) d hx hg rfl hu hd hi h
theorem put8 (hgd : o.guard = none) {ty : TypeId} {x y : Operand} (ho : o.op = .store ty x y) (hN : o.dst = none) (g : Nat) (t : TypeId) (cur : Array Value) (f : Nat → Nat) (hx : a.eval x = .pointer (some ⟨g, 0, none⟩)) (hy : a.eval y = .agg (c8 f)) (hg : w.heap[g]? = some (.cells cur t (0, 0))) (hi : (P.info? ty).map (·.size) = some 8) (hcur : cur.size = 8) {B : Nat} {w0 : World} (HB : Below B w0 w) (hle : B ≤ g)
    (h : ∀ w', w'.heap[g]? = some (.cells (c8 f) t (0, 0)) → (∀ k, k ≠ g → w'.heap[k]? = w.heap[k]?) → Below B w0 w' → wpList P ops Q rest a w') : wpList P ops Q (o :: rest) a w := by
  refine rowput_event hgd ho hN g 0 t cur (c8 f) (.agg (c8 f)) (c8 f).toList hx hy rfl hg hi ?_ ?_ ?_ HB hle h
  · show 0 + 8 ≤ cur.size; omega
  · intro q hq
    simp only [c8, List.mem_cons, List.not_mem_nil, or_false] at hq
    rcases hq with rfl | rfl | rfl | rfl | rfl | rfl | rfl | rfl <;> rfl
  · have : cur.toList.drop (0 + (c8 f).toList.length) = [] := by
      rw [List.drop_eq_nil_iff]; show cur.toList.length ≤ 0 + 8; rw [Array.length_toList]; omega
    rw [this]; simp
end
set_option maxHeartbeats 2000000 in
set_option maxRecDepth 100000 in
theorem plus_calls (a b : Nat) (w : World) :
    Calls Tryd.prog 163 #[.agg (c8 (dn a)), .agg (c8 (dn b))] w fun e w' => e = .returned (.agg (c8 (dn (a + b)))) ∧ Below w.heap.size w w' := by
  obtain ⟨w1, hw1⟩ : ∃ w1, w1 = (((w.alloc (.cells (c8 (dn a)) 195)).alloc (.cells (c8 (dn b)) 195)).alloc (.cells z8 195)) := ⟨_, rfl⟩
  have ka : w1.heap[w.heap.size]? = some (.cells (c8 (mix (a + b) a 0)) 195 (0, 0)) := by rw [hw1, mix_zero]; exact blk_alloc (blk_alloc (heap_alloc_new w _) _) _
  have kb : w1.heap[w.heap.size + 1]? = some (.cells (c8 (dn b)) 195 (0, 0)) := by rw [hw1]; exact blk_alloc (new1 w _ _) _
  have kr : w1.heap[w.heap.size + 1 + 1]? = some (.cells z8 195 (0, 0)) := by rw [hw1]; exact new2 w _ _ _
  have hb1 : Below w.heap.size w w1 := by rw [hw1]; exact (((Below.refl _ w).alloc (Nat.le_refl _) _).alloc (by simp) _).alloc (by simp; omega) _
  obtain ⟨ga, hga⟩ : ∃ g, g = w.heap.size := ⟨_, rfl⟩
  obtain ⟨gb, hgb⟩ : ∃ g, g = w.heap.size + 1 := ⟨_, rfl⟩
  obtain ⟨gr, hgr⟩ : ∃ g, g = w.heap.size + 1 + 1 := ⟨_, rfl⟩
  rw [← hga] at ka
  rw [← hgb] at kb
  rw [← hgr] at kr
  have HX : Aside0 (w1.heap[ga]? = some (.cells (c8 (mix (a + b) a 0)) 195 (0, 0)) ∧ w1.heap[gb]? = some (.cells (c8 (dn b)) 195 (0, 0)) ∧ w1.heap[gr]? = some (.cells z8 195 (0, 0)) ∧ Below w.heap.size w w1) := ⟨ka, kb, kr, hb1⟩
  have HW := Lib.hid hw1
  have HA := Lib.hid hga
  have HB := Lib.hid hgb
  have HR := Lib.hid hgr
  clear hw1 hga hgb hgr ka kb kr hb1
  go_enter Tryd.func163, Tryd.ntmps163
  go_wp2_with (fail)
  rw [← HW.out, ← HR.out, ← HB.out, ← HA.out]
  go_loopw [5, 6] (fun v5 v6 wr => ∃ (i : Nat) (c : Int), Aside0 (i ≤ 8 ∧ c = (cy a b 0 i : Nat) ∧ wr.heap[ga]? = some (.cells (c8 (mix (a + b) a i)) 195 (0, 0)) ∧ wr.heap[gb]? = some (.cells (c8 (dn b)) 195 (0, 0)) ∧ wr.heap[gr]? = some (.cells z8 195 (0, 0)) ∧ Below w.heap.size w wr) ∧ v5 = .int .u64 c ∧ v6 = .int .i64 i) (fun _ v6 _ => (8 - intOf v6).toNat)
  case atStart => exact ⟨0, 0, ⟨by omega, by rw [cy_zero]; rfl, HX.out⟩, rfl, rfl⟩
  case round =>
    obtain ⟨i, c, HY, rfl, rfl⟩ := hrel
    clear HX
    by_cases hi : i < 8
    · have hlt : (i : Int) < 8 := by omega
      have h0 : (0 : Int) ≤ i := by omega
      obtain ⟨x, hx⟩ : ∃ x : Int, x = (dn a i : Nat) := ⟨_, rfl⟩
      obtain ⟨y, hy⟩ : ∃ y : Int, y = (dn b i : Nat) := ⟨_, rfl⟩
      have ca : wr.cell? ⟨ga, i, none⟩ = some (.int .u64 x) := by rw [blk_cell HY.out.2.2.1 i, c8_get _ hi, hx]; simp [mix]
      have cb : wr.cell? ⟨gb, i, none⟩ = some (.int .u64 y) := by rw [blk_cell HY.out.2.2.2.1 i, c8_get _ hi, hy]
      have fa := blk_frozen HY.out.2.2.1 i
      have fb := blk_frozen HY.out.2.2.2.1 i
      have x0 : 0 ≤ x := by omega
      have x1 : x ≤ 4294967295 := by have := dn_lt a i; omega
      have y0 : 0 ≤ y := by omega
      have y1 : y ≤ 4294967295 := by have := dn_lt b i; omega
      have c0 : 0 ≤ c := by have := HY.out.2.1; omega
      have c1 : c ≤ 1 := by have := HY.out.2.1; have := cy_le a b 0 i (by omega); omega
      have HXY := Lib.hid (And.intro hx hy)
      clear hx hy
      go_wp2
      go_region
      go_wp2
      go_roundw
      case rel =>
        have hX := HXY.out
        have hc := HY.out.2.1
        have s1 := cy_succ a b 0 i
        have s2 := dn_add a b 0 i
        rw [Nat.add_zero] at s2
        have v2 : (x + y + c) % 4294967296 = ((dn (a + b) i : Nat) : Int) := by omega
        refine ⟨i + 1, _, ⟨by omega, by omega, ?e2, ?e3, ?e4, ?e5⟩, rfl, by go_num⟩
        case e2 => rw [v2]; exact blk_put HY.out.2.2.1 i _ (c8_set _ _ hi (by simp [mix]) (fun j hj => by unfold mix; have : (j < i + 1) = (j < i) := by apply propext; omega
                                                                                                          simp only [this]))
        case e3 => exact (Below.heap_setCell wr ⟨ga, i, none⟩ _ gb (by have h1 := HA.out; have h2 := HB.out; show gb ≠ ga; omega)).trans HY.out.2.2.2.1
        case e4 => exact (Below.heap_setCell wr ⟨ga, i, none⟩ _ gr (by have h1 := HA.out; have h2 := HR.out; show gr ≠ ga; omega)).trans HY.out.2.2.2.2.1
        case e5 => exact (HY.out.2.2.2.2.2.setCell (by have h1 := HA.out; show w.heap.size ≤ ga; omega) _).drew
      case measure => simp [intOf]; omega
    · obtain rfl : i = 8 := by have := HY.out.1; omega
      have e8 : mix (a + b) a 8 = fun j => if j < 8 then dn (a + b) j else dn a j := rfl
      have hk : wr.heap[ga]? = some (.cells (c8 (dn (a + b))) 195 (0, 0)) := by
        rw [HY.out.2.2.1, c8_congr (g := dn (a + b)) (fun j hj => by simp [mix, hj])]
      have hr := HY.out.2.2.2.2.1
      have hb := HY.out.2.2.2.2.2
      have HS := Aside0.mk (And.intro hk (And.intro hr hb))
      have HL := Lib.hid (show w.heap.size ≤ gr by have := HR.out; omega)
      clear HY hi hk hr hb e8
      go_wp2_with (first | ((with_reducible refine gate_dst (N := 27) rfl ?_); refine get8 rfl rfl ga 195 (dn (a + b)) _ rfl HS.out.1 Tryd.underlying195 rfl (by kernel_rfl) ?_) | ((with_reducible refine gate_store (t := 195) (p := 4) rfl ?_); refine put8 rfl rfl rfl gr 195 z8 (dn (a + b)) rfl rfl HS.out.2.1 (by kernel_rfl) rfl HS.out.2.2 HL.out ?_; intro wz hz hfar hbz; have HZ := Aside0.mk hz; have HBZ := Aside0.mk hbz; clear hz hfar hbz))
      refine bodyPost_ret (results_single rfl (.cell gr 195 (c8 (dn (a + b))) (0, 0) _ rfl HZ.out Tryd.underlying195 rfl (by kernel_rfl) .nil)) rfl ?_
      exact ⟨rfl, HBZ.out⟩
set_option maxHeartbeats 2000000 in
set_option maxRecDepth 100000 in
theorem less_calls (d b : Nat) (w : World) :
    Calls Tryd.prog 151 #[.agg (c8 (dn (d + b))), .agg (c8 (dn b))] w fun e w' => e = .returned (.agg (c8 (dn d))) ∧ Below w.heap.size w w' := by
  obtain ⟨w1, hw1⟩ : ∃ w1, w1 = (((w.alloc (.cells (c8 (dn (d + b))) 195)).alloc (.cells (c8 (dn b)) 195)).alloc (.cells z8 195)) := ⟨_, rfl⟩
  have ka : w1.heap[w.heap.size]? = some (.cells (c8 (mix d (d + b) 0)) 195 (0, 0)) := by rw [hw1, mix_zero]; exact blk_alloc (blk_alloc (heap_alloc_new w _) _) _
  have kb : w1.heap[w.heap.size + 1]? = some (.cells (c8 (dn b)) 195 (0, 0)) := by rw [hw1]; exact blk_alloc (new1 w _ _) _
  have kr : w1.heap[w.heap.size + 1 + 1]? = some (.cells z8 195 (0, 0)) := by rw [hw1]; exact new2 w _ _ _
  have hb1 : Below w.heap.size w w1 := by rw [hw1]; exact (((Below.refl _ w).alloc (Nat.le_refl _) _).alloc (by simp) _).alloc (by simp; omega) _
  obtain ⟨ga, hga⟩ : ∃ g, g = w.heap.size := ⟨_, rfl⟩
  obtain ⟨gb, hgb⟩ : ∃ g, g = w.heap.size + 1 := ⟨_, rfl⟩
  obtain ⟨gr, hgr⟩ : ∃ g, g = w.heap.size + 1 + 1 := ⟨_, rfl⟩
  rw [← hga] at ka
  rw [← hgb] at kb
  rw [← hgr] at kr
  have HX : Aside0 (w1.heap[ga]? = some (.cells (c8 (mix d (d + b) 0)) 195 (0, 0)) ∧ w1.heap[gb]? = some (.cells (c8 (dn b)) 195 (0, 0)) ∧ w1.heap[gr]? = some (.cells z8 195 (0, 0)) ∧ Below w.heap.size w w1) := ⟨ka, kb, kr, hb1⟩
  have HW := Lib.hid hw1
  have HA := Lib.hid hga
  have HB := Lib.hid hgb
  have HR := Lib.hid hgr
  clear hw1 hga hgb hgr ka kb kr hb1
  go_enter Tryd.func151, Tryd.ntmps151
  go_wp2_with (fail)
  rw [← HW.out, ← HR.out, ← HB.out, ← HA.out]
  go_loopw [5, 6] (fun v5 v6 wr => ∃ (i : Nat) (c : Int), Aside0 (i ≤ 8 ∧ c = (cy d b 0 i : Nat) ∧ wr.heap[ga]? = some (.cells (c8 (mix d (d + b) i)) 195 (0, 0)) ∧ wr.heap[gb]? = some (.cells (c8 (dn b)) 195 (0, 0)) ∧ wr.heap[gr]? = some (.cells z8 195 (0, 0)) ∧ Below w.heap.size w wr) ∧ v5 = .int .u64 c ∧ v6 = .int .i64 i) (fun _ v6 _ => (8 - intOf v6).toNat)
  case atStart => exact ⟨0, 0, ⟨by omega, by rw [cy_zero]; rfl, HX.out⟩, rfl, rfl⟩
  case round =>
    obtain ⟨i, c, HY, rfl, rfl⟩ := hrel
    clear HX
    by_cases hi : i < 8
    · have hlt : (i : Int) < 8 := by omega
      have h0 : (0 : Int) ≤ i := by omega
      obtain ⟨x, hx⟩ : ∃ x : Int, x = (dn (d + b) i : Nat) := ⟨_, rfl⟩
      obtain ⟨y, hy⟩ : ∃ y : Int, y = (dn b i : Nat) := ⟨_, rfl⟩
      have ca : wr.cell? ⟨ga, i, none⟩ = some (.int .u64 x) := by rw [blk_cell HY.out.2.2.1 i, c8_get _ hi, hx]; simp [mix]
      have cb : wr.cell? ⟨gb, i, none⟩ = some (.int .u64 y) := by rw [blk_cell HY.out.2.2.2.1 i, c8_get _ hi, hy]
      have fa := blk_frozen HY.out.2.2.1 i
      have fb := blk_frozen HY.out.2.2.2.1 i
      have x0 : 0 ≤ x := by omega
      have x1 : x ≤ 4294967295 := by have := dn_lt (d + b) i; omega
      have y0 : 0 ≤ y := by omega
      have y1 : y ≤ 4294967295 := by have := dn_lt b i; omega
      have c0 : 0 ≤ c := by have := HY.out.2.1; omega
      have c1 : c ≤ 1 := by have := HY.out.2.1; have := cy_le d b 0 i (by omega); omega
      have HXY := Lib.hid (And.intro hx hy)
      clear hx hy
      go_wp2
      go_region
      go_wp2
      go_roundw
      case rel =>
        have hX := HXY.out
        have hc := HY.out.2.1
        have s1 := less_round d b i
        have s2 := cy_le d b 0 (i + 1) (by omega)
        have s3 := dn_lt d i
        have s4 := dn_lt b i
        have v1 : 4294967296 + x - y - c = (if cy d b 0 (i + 1) = 0 then 4294967296 + (dn d i : Int) else dn d i) := by
          split at s1 <;> split <;> omega
        have v23 := less_fin _ (dn d i) _ (by omega) (by omega) s2 v1
        have v2 := v23.2
        have v3 := v23.1
        clear v1 v23
        refine ⟨i + 1, _, ⟨by omega, v3, ?e2, ?e3, ?e4, ?e5⟩, rfl, by go_num⟩
        case e2 => rw [v2]; exact blk_put HY.out.2.2.1 i _ (c8_set _ _ hi (by simp [mix]) (fun j hj => by unfold mix; have : (j < i + 1) = (j < i) := by apply propext; omega
                                                                                                          simp only [this]))
        case e3 => exact (Below.heap_setCell wr ⟨ga, i, none⟩ _ gb (by have h1 := HA.out; have h2 := HB.out; show gb ≠ ga; omega)).trans HY.out.2.2.2.1
        case e4 => exact (Below.heap_setCell wr ⟨ga, i, none⟩ _ gr (by have h1 := HA.out; have h2 := HR.out; show gr ≠ ga; omega)).trans HY.out.2.2.2.2.1
        case e5 => exact (HY.out.2.2.2.2.2.setCell (by have h1 := HA.out; show w.heap.size ≤ ga; omega) _).drew
      case measure => simp [intOf]; omega
    · obtain rfl : i = 8 := by have := HY.out.1; omega
      have e8 : mix d (d + b) 8 = fun j => if j < 8 then dn d j else dn (d + b) j := rfl
      have hk : wr.heap[ga]? = some (.cells (c8 (dn d)) 195 (0, 0)) := by
        rw [HY.out.2.2.1, c8_congr (g := dn d) (fun j hj => by simp [mix, hj])]
      have hr := HY.out.2.2.2.2.1
      have hb := HY.out.2.2.2.2.2
      have HS := Aside0.mk (And.intro hk (And.intro hr hb))
      have HL := Lib.hid (show w.heap.size ≤ gr by have := HR.out; omega)
      clear HY hi hk hr hb e8
      go_wp2_with (first | ((with_reducible refine gate_dst (N := 29) rfl ?_); refine get8 rfl rfl ga 195 (dn d) _ rfl HS.out.1 Tryd.underlying195 rfl (by kernel_rfl) ?_) | ((with_reducible refine gate_store (t := 195) (p := 4) rfl ?_); refine put8 rfl rfl rfl gr 195 z8 (dn d) rfl rfl HS.out.2.1 (by kernel_rfl) rfl HS.out.2.2 HL.out ?_; intro wz hz hfar hbz; have HZ := Aside0.mk hz; have HBZ := Aside0.mk hbz; clear hz hfar hbz))
      refine bodyPost_ret (results_single rfl (.cell gr 195 (c8 (dn d)) (0, 0) _ rfl HZ.out Tryd.underlying195 rfl (by kernel_rfl) .nil)) rfl ?_
      exact ⟨rfl, HBZ.out⟩
set_option maxHeartbeats 2000000 in
set_option maxRecDepth 100000 in
theorem twice_calls (a b : Nat) (hb : b ≤ 1) (w : World) :
    Calls Tryd.prog 149 #[.agg (c8 (dn a)), .int .u64 b] w fun e w' => e = .returned (.agg (c8 (dn (a + a + b)))) ∧ Below w.heap.size w w' := by
  obtain ⟨w1, hw1⟩ : ∃ w1, w1 = ((w.alloc (.cells (c8 (dn a)) 195)).alloc (.cells z8 195)) := ⟨_, rfl⟩
  have ka : w1.heap[w.heap.size]? = some (.cells (c8 (mix (a + a + b) a 0)) 195 (0, 0)) := by rw [hw1, mix_zero]; exact blk_alloc (heap_alloc_new w _) _
  have kr : w1.heap[w.heap.size + 1]? = some (.cells z8 195 (0, 0)) := by rw [hw1]; exact new1 w _ _
  have hb1 : Below w.heap.size w w1 := by rw [hw1]; exact ((Below.refl _ w).alloc (Nat.le_refl _) _).alloc (by simp) _
  obtain ⟨ga, hga⟩ : ∃ g, g = w.heap.size := ⟨_, rfl⟩
  obtain ⟨gr, hgr⟩ : ∃ g, g = w.heap.size + 1 := ⟨_, rfl⟩
  rw [← hga] at ka
  rw [← hgr] at kr
  have HX : Aside0 (w1.heap[ga]? = some (.cells (c8 (mix (a + a + b) a 0)) 195 (0, 0)) ∧ w1.heap[gr]? = some (.cells z8 195 (0, 0)) ∧ Below w.heap.size w w1) := ⟨ka, kr, hb1⟩
  have HW := Lib.hid hw1
  have HA := Lib.hid hga
  have HR := Lib.hid hgr
  have HB1 := Lib.hid hb
  clear hw1 hga hgr ka kr hb1 hb
  go_enter Tryd.func149, Tryd.ntmps149
  go_wp2_with (fail)
  rw [← HW.out, ← HR.out, ← HA.out]
  go_loopw [1, 5] (fun v1 v5 wr => ∃ (i : Nat) (c : Int), Aside0 (i ≤ 8 ∧ c = (cy a a b i : Nat) ∧ wr.heap[ga]? = some (.cells (c8 (mix (a + a + b) a i)) 195 (0, 0)) ∧ wr.heap[gr]? = some (.cells z8 195 (0, 0)) ∧ Below w.heap.size w wr) ∧ v1 = .int .u64 c ∧ v5 = .int .i64 i) (fun _ v5 _ => (8 - intOf v5).toNat)
  case atStart => exact ⟨0, b, ⟨by omega, by rw [cy_zero], HX.out⟩, rfl, rfl⟩
  case round =>
    obtain ⟨i, c, HY, rfl, rfl⟩ := hrel
    clear HX
    by_cases hi : i < 8
    · have hlt : (i : Int) < 8 := by omega
      have h0 : (0 : Int) ≤ i := by omega
      obtain ⟨x, hx⟩ : ∃ x : Int, x = (dn a i : Nat) := ⟨_, rfl⟩
      have ca : wr.cell? ⟨ga, i, none⟩ = some (.int .u64 x) := by rw [blk_cell HY.out.2.2.1 i, c8_get _ hi, hx]; simp [mix]
      have fa := blk_frozen HY.out.2.2.1 i
      have x0 : 0 ≤ x := by omega
      have x1 : x ≤ 4294967295 := by have := dn_lt a i; omega
      have c0 : 0 ≤ c := by have := HY.out.2.1; omega
      have c1 : c ≤ 1 := by have := HY.out.2.1; have := cy_le a a b i HB1.out; omega
      have HXY := Lib.hid hx
      clear hx
      go_wp2
      go_roundw
      case rel =>
        have hX := HXY.out
        have hc := HY.out.2.1
        have s1 := cy_succ a a b i
        have s2 := dn_add a a b i
        have v2 : (2 * x + c) % 4294967296 = ((dn (a + a + b) i : Nat) : Int) := by omega
        refine ⟨i + 1, _, ⟨by omega, by omega, ?e2, ?e4, ?e5⟩, rfl, by go_num⟩
        case e2 => rw [v2]; exact blk_put HY.out.2.2.1 i _ (c8_set _ _ hi (by simp [mix]) (fun j hj => by unfold mix; have : (j < i + 1) = (j < i) := by apply propext; omega
                                                                                                          simp only [this]))
        case e4 => exact (Below.heap_setCell wr ⟨ga, i, none⟩ _ gr (by have h1 := HA.out; have h2 := HR.out; show gr ≠ ga; omega)).trans HY.out.2.2.2.1
        case e5 => exact (HY.out.2.2.2.2.setCell (by have h1 := HA.out; show w.heap.size ≤ ga; omega) _)
      case measure => simp [intOf]; omega
    · obtain rfl : i = 8 := by have := HY.out.1; omega
      have hk : wr.heap[ga]? = some (.cells (c8 (dn (a + a + b))) 195 (0, 0)) := by
        rw [HY.out.2.2.1, c8_congr (g := dn (a + a + b)) (fun j hj => by simp [mix, hj])]
      have hr := HY.out.2.2.2.1
      have hb := HY.out.2.2.2.2
      have HS := Aside0.mk (And.intro hk (And.intro hr hb))
      have HL := Lib.hid (show w.heap.size ≤ gr by have := HR.out; omega)
      clear HY hi hk hr hb
      go_wp2_with (first | ((with_reducible refine gate_dst (N := 23) rfl ?_); refine get8 rfl rfl ga 195 (dn (a + a + b)) _ rfl HS.out.1 Tryd.underlying195 rfl (by kernel_rfl) ?_) | ((with_reducible refine gate_store (t := 195) (p := 4) rfl ?_); refine put8 rfl rfl rfl gr 195 z8 (dn (a + a + b)) rfl rfl HS.out.2.1 (by kernel_rfl) rfl HS.out.2.2 HL.out ?_; intro wz hz hfar hbz; have HZ := Aside0.mk hz; have HBZ := Aside0.mk hbz; clear hz hfar hbz))
      refine bodyPost_ret (results_single rfl (.cell gr 195 (c8 (dn (a + a + b))) (0, 0) _ rfl HZ.out Tryd.underlying195 rfl (by kernel_rfl) .nil)) rfl ?_
      exact ⟨rfl, HBZ.out⟩
/-- which is the greater -/
def sg (a b : Nat) : Int := if b < a then 1 else if a < b then -1 else 0
set_option maxHeartbeats 2000000 in
set_option maxRecDepth 100000 in
theorem size_calls (a b : Nat) (hA : a < P 8) (hB : b < P 8) (w : World) :
    Calls Tryd.prog 150 #[.agg (c8 (dn a)), .agg (c8 (dn b))] w fun e w' => e = .returned (.int .i64 (sg a b)) ∧ Below w.heap.size w w' := by
  obtain ⟨w1, hw1⟩ : ∃ w1, w1 = ((w.alloc (.cells (c8 (dn a)) 195)).alloc (.cells (c8 (dn b)) 195)) := ⟨_, rfl⟩
  have ka : w1.heap[w.heap.size]? = some (.cells (c8 (dn a)) 195 (0, 0)) := by rw [hw1]; exact blk_alloc (heap_alloc_new w _) _
  have kb : w1.heap[w.heap.size + 1]? = some (.cells (c8 (dn b)) 195 (0, 0)) := by rw [hw1]; exact new1 w _ _
  have hb1 : Below w.heap.size w w1 := by rw [hw1]; exact ((Below.refl _ w).alloc (Nat.le_refl _) _).alloc (by simp) _
  obtain ⟨ga, hga⟩ : ∃ g, g = w.heap.size := ⟨_, rfl⟩
  obtain ⟨gb, hgb⟩ : ∃ g, g = w.heap.size + 1 := ⟨_, rfl⟩
  rw [← hga] at ka
  rw [← hgb] at kb
  have HX : Aside0 (w1.heap[ga]? = some (.cells (c8 (dn a)) 195 (0, 0)) ∧ w1.heap[gb]? = some (.cells (c8 (dn b)) 195 (0, 0)) ∧ Below w.heap.size w w1) := ⟨ka, kb, hb1⟩
  have HW := Lib.hid hw1
  have HGA := Lib.hid hga
  have HGB := Lib.hid hgb
  have HAB := Lib.hid (And.intro hA hB)
  obtain ⟨r, hr⟩ : ∃ r, r = sg a b := ⟨_, rfl⟩
  rw [← hr]
  have HR := Lib.hid hr
  clear hw1 hga hgb ka kb hb1 hA hB hr
  go_enter Tryd.func150, Tryd.ntmps150
  go_wp2_with (fail)
  rw [← HW.out, ← HGB.out, ← HGA.out]
  go_loopw [5] (fun v5 wr => ∃ (m : Nat) (q : Int), Aside0 (m ≤ 8 ∧ q = (m : Int) - 1 ∧ a / P m = b / P m ∧ wr.heap[ga]? = some (.cells (c8 (dn a)) 195 (0, 0)) ∧ wr.heap[gb]? = some (.cells (c8 (dn b)) 195 (0, 0)) ∧ Below w.heap.size w wr) ∧ v5 = .int .i64 q) (fun v5 _ => (intOf v5 + 1).toNat)
  case atStart => exact ⟨8, 7, ⟨by omega, by omega, by rw [Nat.div_eq_of_lt HAB.out.1, Nat.div_eq_of_lt HAB.out.2], HX.out⟩, rfl⟩
  case round =>
    obtain ⟨m, q, HY, rfl⟩ := hrel
    clear HX
    cases m with
    | zero =>
      obtain rfl : q = -1 := by have := HY.out.2.1; omega
      go_wp2
      go_ret
      refine ⟨?_, HY.out.2.2.2.2.2⟩
      have := HY.out.2.2.1
      simp only [P_zero, Nat.div_one] at this
      rw [HR.out]; unfold sg; rw [if_neg (by omega), if_neg (by omega)]; all_goals rfl
    | succ i =>
      obtain rfl : q = (i : Int) := by have := HY.out.2.1; omega
      have hi : i < 8 := by have := HY.out.1; omega
      have hlt : (i : Int) < 8 := by omega
      have h0 : (0 : Int) ≤ i := by omega
      obtain ⟨x, hx⟩ : ∃ x : Int, x = (dn a i : Nat) := ⟨_, rfl⟩
      obtain ⟨y, hy⟩ : ∃ y : Int, y = (dn b i : Nat) := ⟨_, rfl⟩
      have ca : wr.cell? ⟨ga, i, none⟩ = some (.int .u64 x) := by rw [blk_cell HY.out.2.2.2.1 i, c8_get _ hi, hx]
      have cb : wr.cell? ⟨gb, i, none⟩ = some (.int .u64 y) := by rw [blk_cell HY.out.2.2.2.2.1 i, c8_get _ hi, hy]
      have fa := blk_frozen HY.out.2.2.2.1 i
      have fb := blk_frozen HY.out.2.2.2.2.1 i
      have HXY := Lib.hid (And.intro hx hy)
      clear hx hy
      have HE := Lib.hid HY.out.2.2.1
      by_cases g1 : y < x
      · have g1' := decide_eq_true g1
        go_wp2
        go_region
        go_wp2
        go_ret
        refine ⟨?_, HY.out.2.2.2.2.2.drew⟩
        have := lt_of_dn HE.out.symm (show dn b i < dn a i by have := HXY.out; omega)
        rw [HR.out]; unfold sg; rw [if_pos this]; all_goals rfl
      · have g1' := decide_eq_false g1
        by_cases g2 : x < y
        · have g2' := decide_eq_true g2
          go_wp2
          go_region
          go_wp2
          go_region
          go_wp2
          go_ret
          refine ⟨?_, HY.out.2.2.2.2.2.drew.drew⟩
          have := lt_of_dn HE.out (show dn a i < dn b i by have := HXY.out; omega)
          rw [HR.out]; unfold sg; rw [if_neg (by omega), if_pos this]; all_goals rfl
        · have g2' := decide_eq_false g2
          go_wp2
          go_region
          go_wp2
          go_region
          go_wp2
          go_roundw
          case rel => exact ⟨i, _, ⟨by omega, rfl, div_eq_of_dn HE.out (by have := HXY.out; omega), HY.out.2.2.2.1, HY.out.2.2.2.2.1, HY.out.2.2.2.2.2.drew.drew⟩, rfl⟩
          case measure => simp [intOf]
end Go.Proofs.YtpihgdehgkclmaaDoor.Big
