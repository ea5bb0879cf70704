/-
  The reference's numbers of 256 bits that are not below 0, walked: each function by the numbers it tells of.
-/
import Derived.Test.YtpihgdehgkclmaaDoorK
import Derived.Test.YtpihgdehgkclmaaDoorRow
import Derived.Test.YtpihgdehgkclmaaDoorWLast
import Derived.Test.YtpihgdehgkclmaaDoorWMore
import Derived.Test.YtpihgdehgkclmaaDoorWGuard
import Derived.Deep.RegionHeld3
import Derived.Deep.DeepCutAuto
import Derived.Deep.CutBlock
import Derived.LoopTactic
namespace Go.Proofs.YtpihgdehgkclmaaDoor.Bign
open Go.RowKit Go.Proofs.YtpihgdehgkclmaaDoorW.PrintWords Go.Proofs.YtpihgdehgkclmaaDoorW.PrintLast Go.Proofs.YtpihgdehgkclmaaDoorW.PrintMore
set_option linter.unusedVariables false
set_option linter.unusedSimpArgs false
/-- what a digit stays below, to a power -/
def P (i : Nat) : Nat := 4294967296 ^ i
theorem P_succ (i : Nat) : P (i + 1) = P i * 4294967296 := by unfold P; rw [Nat.pow_succ]
theorem P_pos (i : Nat) : 0 < P i := Nat.pow_pos (by decide)
theorem P_zero : P 0 = 1 := rfl
theorem P_add (i j : Nat) : P (i + j) = P i * P j := Nat.pow_add ..
/-- a digit -/
def dn (n i : Nat) : Nat := n / P i % 4294967296
theorem dn_lt (n i : Nat) : dn n i < 4294967296 := Nat.mod_lt _ (by decide)
theorem mod_succ (n i : Nat) : n % P (i + 1) = n % P i + P i * dn n i := by
  rw [P_succ, Nat.mod_mul]; rfl
/-- what is carried into digit i -/
def cy (a b c i : Nat) : Nat := (a % P i + b % P i + c) / P i
theorem cy_zero (a b c : Nat) : cy a b c 0 = c := by simp [cy, P_zero, Nat.mod_one]
theorem cy_le (a b c i : Nat) (hc : c ≤ 1) : cy a b c i ≤ 1 := by
  unfold cy
  have h := P_pos i
  have h1 := Nat.mod_lt a h
  have h2 := Nat.mod_lt b h
  have : a % P i + b % P i + c < 2 * P i := by omega
  have := Nat.div_lt_of_lt_mul (show a % P i + b % P i + c < P i * 2 by omega)
  omega
theorem cy_succ (a b c i : Nat) : cy a b c (i + 1) = (dn a i + dn b i + cy a b c i) / 4294967296 := by
  unfold cy
  rw [mod_succ, mod_succ, P_succ, ← Nat.div_div_eq_div_mul]
  congr 1
  rw [show a % P i + P i * dn a i + (b % P i + P i * dn b i) + c = (a % P i + b % P i + c) + P i * (dn a i + dn b i) by rw [Nat.mul_add]; omega, Nat.add_mul_div_left _ _ (P_pos i)]
  omega
theorem dn_add (a b c i : Nat) : dn (a + b + c) i = (dn a i + dn b i + cy a b c i) % 4294967296 := by
  unfold dn cy
  have h : (a + b + c) / P i = a / P i + b / P i + (a % P i + b % P i + c) / P i := by
    have e1 := Nat.div_add_mod a (P i)
    have e2 := Nat.div_add_mod b (P i)
    have : a + b + c = (a % P i + b % P i + c) + P i * (a / P i + b / P i) := by rw [Nat.mul_add]; omega
    rw [this, Nat.add_mul_div_left _ _ (P_pos i)]
    omega
  rw [h]; omega
/-- a round of a difference: a = d + b -/
theorem less_round (d b i : Nat) : 4294967296 + dn (d + b) i - dn b i - cy d b 0 i = (if cy d b 0 (i + 1) = 0 then 4294967296 + dn d i else dn d i) := by
  have h1 := dn_add d b 0 i
  have h2 := cy_succ d b 0 i
  have h3 := cy_le d b 0 (i + 1) (by omega)
  have h4 := dn_lt d i
  have h5 := dn_lt b i
  rw [Nat.add_zero] at h1
  split <;> omega
theorem eq_of_dn {a b : Nat} (h : ∀ j, dn a j = dn b j) (k : Nat) : a % P k = b % P k := by
  induction k with
  | zero => simp [P_zero, Nat.mod_one]
  | succ k ih => rw [mod_succ, mod_succ, ih, h]
/-- above a place both are alike -/
theorem div_succ (a i : Nat) : a / P i = 4294967296 * (a / P (i + 1)) + dn a i := by
  rw [P_succ, ← Nat.div_div_eq_div_mul]; unfold dn; omega
theorem lt_of_dn {a b i : Nat} (h : a / P (i + 1) = b / P (i + 1)) (hd : dn a i < dn b i) : a < b := by
  have h1 := div_succ a i
  have h2 := div_succ b i
  have h3 : a / P i < b / P i := by omega
  have e1 := Nat.div_add_mod a (P i)
  have e2 := Nat.div_add_mod b (P i)
  have := Nat.mod_lt a (P_pos i)
  have h5 : P i * (a / P i + 1) ≤ P i * (b / P i) := Nat.mul_le_mul_left _ h3
  rw [Nat.mul_add] at h5
  omega
theorem div_eq_of_dn {a b i : Nat} (h : a / P (i + 1) = b / P (i + 1)) (hd : dn a i = dn b i) : a / P i = b / P i := by
  rw [div_succ a i, div_succ b i, h, hd]
/-- rounds of a product: what has come of row i up to column k -/
def ml (M z y i k : Nat) : Nat := M % P (i + k) + P i * z * (y % P k)
theorem ml_zero (M z y i : Nat) : ml M z y i 0 = M % P i := by simp [ml, P_zero, Nat.mod_one]
def mc (M z y i k : Nat) : Nat := ml M z y i k / P (i + k)
theorem mc_zero (M z y i : Nat) : mc M z y i 0 = 0 := by
  unfold mc; rw [ml_zero]; exact Nat.div_eq_of_lt (Nat.mod_lt _ (P_pos i))
theorem ml_succ (M z y i k : Nat) : ml M z y i (k + 1) = ml M z y i k + P (i + k) * (dn M (i + k) + z * dn y k) := by
  unfold ml
  rw [← Nat.add_assoc, mod_succ, mod_succ, Nat.mul_add, Nat.mul_add, P_add]
  have : P i * z * (P k * dn y k) = P i * P k * (z * dn y k) := by ac_rfl
  omega
theorem mc_succ (M z y i k : Nat) : mc M z y i (k + 1) = (z * dn y k + dn M (i + k) + mc M z y i k) / 4294967296 := by
  unfold mc
  rw [ml_succ, ← Nat.add_assoc, P_succ, ← Nat.div_div_eq_div_mul, Nat.add_mul_div_left _ _ (P_pos _)]
  congr 1
  omega
theorem mc_lt (M z y i k : Nat) (hz : z < 4294967296) : mc M z y i k < 4294967296 := by
  induction k with
  | zero => rw [mc_zero]; omega
  | succ k ih =>
    rw [mc_succ]
    have h1 := dn_lt y k
    have h2 := dn_lt M (i + k)
    have h3 : z * dn y k ≤ 4294967295 * 4294967295 := Nat.mul_le_mul (by omega) (by omega)
    omega
theorem mul_round (z d e c : Nat) (hz : z < 4294967296) (hd : d < 4294967296) (he : e < 4294967296) (hc : c < 4294967296) : z * d + e + c < 18446744073709551616 := by
  have h3 : z * d ≤ 4294967295 * 4294967295 := Nat.mul_le_mul (by omega) (by omega)
  omega
theorem dn_of_mod {a b i : Nat} (h : a % P (i + 1) = b % P (i + 1)) : dn a i = dn b i := by
  have h1 := mod_succ a i
  have h2 := mod_succ b i
  have h3 := Nat.mod_lt a (P_pos i)
  have h4 := Nat.mod_lt b (P_pos i)
  have e1 : (a % P (i + 1)) / P i = dn a i := by rw [h1, Nat.add_mul_div_left _ _ (P_pos i), Nat.div_eq_of_lt h3]; omega
  have e2 : (b % P (i + 1)) / P i = dn b i := by rw [h2, Nat.add_mul_div_left _ _ (P_pos i), Nat.div_eq_of_lt h4]; omega
  rw [← e1, ← e2, h]
theorem ml_mod (M z y i k : Nat) : ml M z y i k % P (i + k) = (M + P i * z * y) % P (i + k) := by
  unfold ml
  have h := Nat.div_add_mod y (P k)
  have : M + P i * z * y = M + P i * z * (y % P k) + P (i + k) * (z * (y / P k)) := by
    rw [P_add]
    have e : P i * z * y = P i * z * (P k * (y / P k)) + P i * z * (y % P k) := by rw [← Nat.mul_add, h]
    have e2 : P i * z * (P k * (y / P k)) = P i * P k * (z * (y / P k)) := by ac_rfl
    omega
  rw [this, Nat.add_mul_mod_self_left, Nat.add_mod, Nat.mod_mod, ← Nat.add_mod]
theorem mul_digit (M z y i k : Nat) : dn (M + P i * z * y) (i + k) = (z * dn y k + dn M (i + k) + mc M z y i k) % 4294967296 := by
  have h := ml_mod M z y i (k + 1)
  rw [← dn_of_mod (a := ml M z y i (k + 1)) (i := i + k) h]
  unfold dn
  rw [ml_succ, Nat.add_mul_div_left _ _ (P_pos _)]
  unfold mc dn
  congr 1
  omega
/-- the last column -/
theorem mul_last (M z y i k : Nat) (hM : M < P (i + k)) (hy : y < P k) : mc M z y i k = (M + P i * z * y) / P (i + k) := by
  unfold mc ml
  rw [Nat.mod_eq_of_lt hM, Nat.mod_eq_of_lt hy]
theorem mul_bound (x y i k : Nat) (hy : y < P k) (z : Nat) (hx : x < P i) (hz : z < 4294967296) : x * y + P i * z * y < P (i + k + 1) := by
  have h1 : (x + P i * z) < P (i + 1) := by
    rw [P_succ]
    have := Nat.mul_le_mul_left (P i) (show z ≤ 4294967295 by omega)
    omega
  have h2 : (x + P i * z) * y < P (i + 1) * P k := by
    rcases Nat.eq_zero_or_pos y with rfl | h0
    · simp; exact Nat.mul_pos (P_pos _) (P_pos _)
    · exact Nat.mul_lt_mul_of_lt_of_le h1 (Nat.le_of_lt hy) (P_pos _)
  rw [Nat.add_mul] at h2
  rw [show i + k + 1 = (i + 1) + k by omega, P_add]
  exact h2
theorem dn_zero_of_lt {n i : Nat} (h : n < P i) : dn n i = 0 := by unfold dn; rw [Nat.div_eq_of_lt h]
theorem P_mono {i j : Nat} (h : i ≤ j) : P i ≤ P j := Nat.pow_le_pow_right (by decide) h
theorem dn_eq_div {n i : Nat} (h : n < P (i + 1)) : dn n i = n / P i := by
  unfold dn; rw [Nat.mod_eq_of_lt]; rw [P_succ] at h; exact Nat.div_lt_of_lt_mul h
/-- bit by bit -/
theorem div_bit (X i D : Nat) (hD : 0 < D) : (X / 2 ^ i) / D = 2 * ((X / 2 ^ (i + 1)) / D) + (if D ≤ 2 * ((X / 2 ^ (i + 1)) % D) + X / 2 ^ i % 2 then 1 else 0) ∧ (X / 2 ^ i) % D = 2 * ((X / 2 ^ (i + 1)) % D) + X / 2 ^ i % 2 - (if D ≤ 2 * ((X / 2 ^ (i + 1)) % D) + X / 2 ^ i % 2 then D else 0) := by
  have e : X / 2 ^ i = 2 * (X / 2 ^ (i + 1)) + X / 2 ^ i % 2 := by rw [Nat.pow_succ, ← Nat.div_div_eq_div_mul]; omega
  generalize X / 2 ^ (i + 1) = A at e ⊢
  have hb : X / 2 ^ i % 2 < 2 := Nat.mod_lt _ (by decide)
  generalize X / 2 ^ i % 2 = b at e hb ⊢
  have h1 := Nat.div_add_mod A D
  have h2 := Nat.mod_lt A hD
  rw [e]
  generalize A / D = q at h1 ⊢
  generalize A % D = r at h1 h2 ⊢
  have h3 : 2 * A + b = (2 * r + b) + D * (2 * q) := by
    have : D * (2 * q) = 2 * (D * q) := by ac_rfl
    omega
  rw [h3, Nat.add_mul_div_left _ _ hD, Nat.add_mul_mod_self_left]
  split
  · have : 2 * r + b = (2 * r + b - D) + D * 1 := by omega
    rw [this, Nat.add_mul_div_left _ _ hD, Nat.add_mul_mod_self_left, Nat.div_eq_of_lt (by omega), Nat.mod_eq_of_lt (by omega)]
    constructor <;> omega
  · rw [Nat.div_eq_of_lt (by omega), Nat.mod_eq_of_lt (by omega)]
    constructor <;> omega
theorem P8 : P 8 = 115792089237316195423570985008687907853269984665640564039457584007913129639936 := by decide
/-- digits of two numbers: below a place of one, from it on of the other -/
def mix (s a i : Nat) : Nat → Nat := fun j => if j < i then dn s j else dn a j
theorem mix_zero (s a : Nat) : mix s a 0 = dn a := by funext j; simp [mix]

theorem less_fin (N dd : Int) (cc : Nat) (h0 : 0 ≤ dd) (h1 : dd < 4294967296) (hc : cc ≤ 1) (hN : N = if cc = 0 then 4294967296 + dd else dd) : 1 - N / 4294967296 = (cc : Int) ∧ N % 4294967296 = dd := by
  by_cases h : cc = 0
  · rw [if_pos h] at hN; omega
  · rw [if_neg h] at hN; omega
/-- eight cells -/
def c8 (f : Nat → Nat) : Array Value := #[.int .u64 (f 0), .int .u64 (f 1), .int .u64 (f 2), .int .u64 (f 3), .int .u64 (f 4), .int .u64 (f 5), .int .u64 (f 6), .int .u64 (f 7)]
theorem c8_size (f : Nat → Nat) : (c8 f).size = 8 := rfl
theorem c8_get (f : Nat → Nat) {i : Nat} (h : i < 8) : (c8 f)[i]? = some (.int .u64 (f i)) := by
  have : i = 0 ∨ i = 1 ∨ i = 2 ∨ i = 3 ∨ i = 4 ∨ i = 5 ∨ i = 6 ∨ i = 7 := by omega
  rcases this with rfl | rfl | rfl | rfl | rfl | rfl | rfl | rfl <;> rfl
theorem c8_congr {f g : Nat → Nat} (h : ∀ j, j < 8 → f j = g j) : c8 f = c8 g := by
  unfold c8
  rw [h 0 (by omega), h 1 (by omega), h 2 (by omega), h 3 (by omega), h 4 (by omega), h 5 (by omega), h 6 (by omega), h 7 (by omega)]
theorem c8_set (f g : Nat → Nat) {i v : Nat} (h : i < 8) (hv : g i = v) (hg : ∀ j, j ≠ i → g j = f j) : (c8 f).setIfInBounds i (.int .u64 (v : Int)) = c8 g := by
  subst hv
  have h' : i = 0 ∨ i = 1 ∨ i = 2 ∨ i = 3 ∨ i = 4 ∨ i = 5 ∨ i = 6 ∨ i = 7 := by omega
  have e : c8 g = c8 (fun j => if j = i then g i else f j) := c8_congr (fun j _ => by by_cases hj : j = i <;> simp [hj]; exact hg j hj)
  rw [e]
  rcases h' with rfl | rfl | rfl | rfl | rfl | rfl | rfl | rfl <;> rfl
abbrev z8 : Array Value := #[.int .u64 0, .int .u64 0, .int .u64 0, .int .u64 0, .int .u64 0, .int .u64 0, .int .u64 0, .int .u64 0]
theorem z8_eq : z8 = c8 (dn 0) := by simp [z8, c8, dn]
theorem new1 (w : World) (o1 o2 : Obj) : ((w.alloc o1).alloc o2).heap[w.heap.size + 1]? = some o2 := by
  have := heap_alloc_new (w.alloc o1) o2
  simpa using this
theorem new2 (w : World) (o1 o2 o3 : Obj) : (((w.alloc o1).alloc o2).alloc o3).heap[w.heap.size + 1 + 1]? = some o3 := by
  have := heap_alloc_new ((w.alloc o1).alloc o2) o3
  simpa using this
section
variable {P : Program} {ops : Array Oper} {rest : List Oper} {o : Oper} {a : Act} {w : World} {Q : Exit → Act → World → Prop}
theorem get8 (hgd : o.guard = none) {ty : TypeId} {x : Operand} (ho : o.op = .load ty x) (g : Nat) (t : TypeId) (f : Nat → Nat) (d : TypeDesc) (hx : a.eval x = .pointer (some ⟨g, 0, none⟩)) (hg : w.heap[g]? = some (.cells (c8 f) t (0, 0))) (hu : P.underlying ty = some d) (hd : (match d with | .struct _ | .array _ _ => true | _ => false) = true) (hi : (P.info? ty).map (·.size) = some 8) (h : wpList P ops Q rest (a.put o.dst (.agg (c8 f))) w) : wpList P ops Q (o :: rest) a w :=
  rowget_event hgd ho g 0 t (c8 f) (c8 f) d hx hg rfl hu hd hi h
theorem put8 (hgd : o.guard = none) {ty : TypeId} {x y : Operand} (ho : o.op = .store ty x y) (hN : o.dst = none) (g : Nat) (t : TypeId) (cur : Array Value) (f : Nat → Nat) (hx : a.eval x = .pointer (some ⟨g, 0, none⟩)) (hy : a.eval y = .agg (c8 f)) (hg : w.heap[g]? = some (.cells cur t (0, 0))) (hi : (P.info? ty).map (·.size) = some 8) (hcur : cur.size = 8) {B : Nat} {w0 : World} (HB : Below B w0 w) (hle : B ≤ g)
    (h : ∀ w', w'.heap[g]? = some (.cells (c8 f) t (0, 0)) → (∀ k, k ≠ g → w'.heap[k]? = w.heap[k]?) → Below B w0 w' → wpList P ops Q rest a w') : wpList P ops Q (o :: rest) a w := by
  refine rowput_event hgd ho hN g 0 t cur (c8 f) (.agg (c8 f)) (c8 f).toList hx hy rfl hg hi ?_ ?_ ?_ HB hle h
  · show 0 + 8 ≤ cur.size; omega
  · intro q hq
    simp only [c8, List.mem_cons, List.not_mem_nil, or_false] at hq
    rcases hq with rfl | rfl | rfl | rfl | rfl | rfl | rfl | rfl <;> rfl
  · have : cur.toList.drop (0 + (c8 f).toList.length) = [] := by
      rw [List.drop_eq_nil_iff]; show cur.toList.length ≤ 0 + 8; rw [Array.length_toList]; omega
    rw [this]; simp
end
set_option maxHeartbeats 2000000 in
set_option maxRecDepth 100000 in
theorem less_calls (d b : Nat) (w : World) :
    Calls Tryd.prog 151 #[.agg (c8 (dn (d + b))), .agg (c8 (dn b))] w fun e w' => e = .returned (.agg (c8 (dn d))) ∧ Below w.heap.size w w' := by
  obtain ⟨w1, hw1⟩ : ∃ w1, w1 = (((w.alloc (.cells (c8 (dn (d + b))) 195)).alloc (.cells (c8 (dn b)) 195)).alloc (.cells z8 195)) := ⟨_, rfl⟩
  have ka : w1.heap[w.heap.size]? = some (.cells (c8 (mix d (d + b) 0)) 195 (0, 0)) := by rw [hw1, mix_zero]; exact blk_alloc (blk_alloc (heap_alloc_new w _) _) _
  have kb : w1.heap[w.heap.size + 1]? = some (.cells (c8 (dn b)) 195 (0, 0)) := by rw [hw1]; exact blk_alloc (new1 w _ _) _
  have kr : w1.heap[w.heap.size + 1 + 1]? = some (.cells z8 195 (0, 0)) := by rw [hw1]; exact new2 w _ _ _
  have hb1 : Below w.heap.size w w1 := by rw [hw1]; exact (((Below.refl _ w).alloc (Nat.le_refl _) _).alloc (by simp) _).alloc (by simp; omega) _
  obtain ⟨ga, hga⟩ : ∃ g, g = w.heap.size := ⟨_, rfl⟩
  obtain ⟨gb, hgb⟩ : ∃ g, g = w.heap.size + 1 := ⟨_, rfl⟩
  obtain ⟨gr, hgr⟩ : ∃ g, g = w.heap.size + 1 + 1 := ⟨_, rfl⟩
  rw [← hga] at ka
  rw [← hgb] at kb
  rw [← hgr] at kr
  have HX : Aside0 (w1.heap[ga]? = some (.cells (c8 (mix d (d + b) 0)) 195 (0, 0)) ∧ w1.heap[gb]? = some (.cells (c8 (dn b)) 195 (0, 0)) ∧ w1.heap[gr]? = some (.cells z8 195 (0, 0)) ∧ Below w.heap.size w w1) := ⟨ka, kb, kr, hb1⟩
  have HW := Lib.hid hw1
  have HA := Lib.hid hga
  have HB := Lib.hid hgb
  have HR := Lib.hid hgr
  clear hw1 hga hgb hgr ka kb kr hb1
  go_enter Tryd.func151, Tryd.ntmps151
  go_wp2_with (fail)
  rw [← HW.out, ← HR.out, ← HB.out, ← HA.out]
  go_loopw [5, 6] (fun v5 v6 wr => ∃ (i : Nat) (c : Int), Aside0 (i ≤ 8 ∧ c = (cy d b 0 i : Nat) ∧ wr.heap[ga]? = some (.cells (c8 (mix d (d + b) i)) 195 (0, 0)) ∧ wr.heap[gb]? = some (.cells (c8 (dn b)) 195 (0, 0)) ∧ wr.heap[gr]? = some (.cells z8 195 (0, 0)) ∧ Below w.heap.size w wr) ∧ v5 = .int .u64 c ∧ v6 = .int .i64 i) (fun _ v6 _ => (8 - intOf v6).toNat)
  case atStart => exact ⟨0, 0, ⟨by omega, by rw [cy_zero]; rfl, HX.out⟩, rfl, rfl⟩
  case round =>
    obtain ⟨i, c, HY, rfl, rfl⟩ := hrel
    clear HX
    by_cases hi : i < 8
    · have hlt : (i : Int) < 8 := by omega
      have h0 : (0 : Int) ≤ i := by omega
      obtain ⟨x, hx⟩ : ∃ x : Int, x = (dn (d + b) i : Nat) := ⟨_, rfl⟩
      obtain ⟨y, hy⟩ : ∃ y : Int, y = (dn b i : Nat) := ⟨_, rfl⟩
      have ca : wr.cell? ⟨ga, i, none⟩ = some (.int .u64 x) := by rw [blk_cell HY.out.2.2.1 i, c8_get _ hi, hx]; simp [mix]
      have cb : wr.cell? ⟨gb, i, none⟩ = some (.int .u64 y) := by rw [blk_cell HY.out.2.2.2.1 i, c8_get _ hi, hy]
      have fa := blk_frozen HY.out.2.2.1 i
      have fb := blk_frozen HY.out.2.2.2.1 i
      have x0 : 0 ≤ x := by omega
      have x1 : x ≤ 4294967295 := by have := dn_lt (d + b) i; omega
      have y0 : 0 ≤ y := by omega
      have y1 : y ≤ 4294967295 := by have := dn_lt b i; omega
      have c0 : 0 ≤ c := by have := HY.out.2.1; omega
      have c1 : c ≤ 1 := by have := HY.out.2.1; have := cy_le d b 0 i (by omega); omega
      have HXY := Lib.hid (And.intro hx hy)
      clear hx hy
      go_wp2
      go_region
      go_wp2
      go_roundw
      case rel =>
        have hX := HXY.out
        have hc := HY.out.2.1
        have s1 := less_round d b i
        have s2 := cy_le d b 0 (i + 1) (by omega)
        have s3 := dn_lt d i
        have s4 := dn_lt b i
        have v1 : 4294967296 + x - y - c = (if cy d b 0 (i + 1) = 0 then 4294967296 + (dn d i : Int) else dn d i) := by
          split at s1 <;> split <;> omega
        have v23 := less_fin _ (dn d i) _ (by omega) (by omega) s2 v1
        have v2 := v23.2
        have v3 := v23.1
        clear v1 v23
        refine ⟨i + 1, _, ⟨by omega, v3, ?e2, ?e3, ?e4, ?e5⟩, rfl, by go_num⟩
        case e2 => rw [v2]; exact blk_put HY.out.2.2.1 i _ (c8_set _ _ hi (by simp [mix]) (fun j hj => by unfold mix; have : (j < i + 1) = (j < i) := by apply propext; omega
                                                                                                          simp only [this]))
        case e3 => exact (Below.heap_setCell wr ⟨ga, i, none⟩ _ gb (by have h1 := HA.out; have h2 := HB.out; show gb ≠ ga; omega)).trans HY.out.2.2.2.1
        case e4 => exact (Below.heap_setCell wr ⟨ga, i, none⟩ _ gr (by have h1 := HA.out; have h2 := HR.out; show gr ≠ ga; omega)).trans HY.out.2.2.2.2.1
        case e5 => exact (HY.out.2.2.2.2.2.setCell (by have h1 := HA.out; show w.heap.size ≤ ga; omega) _).drew
      case measure => simp [intOf]; omega
    · obtain rfl : i = 8 := by have := HY.out.1; omega
      have e8 : mix d (d + b) 8 = fun j => if j < 8 then dn d j else dn (d + b) j := rfl
      have hk : wr.heap[ga]? = some (.cells (c8 (dn d)) 195 (0, 0)) := by
        rw [HY.out.2.2.1, c8_congr (g := dn d) (fun j hj => by simp [mix, hj])]
      have hr := HY.out.2.2.2.2.1
      have hb := HY.out.2.2.2.2.2
      have HS := Aside0.mk (And.intro hk (And.intro hr hb))
      have HL := Lib.hid (show w.heap.size ≤ gr by have := HR.out; omega)
      clear HY hi hk hr hb e8
      go_wp2_with (first | ((with_reducible refine gate_dst (N := 29) rfl ?_); refine get8 rfl rfl ga 195 (dn d) _ rfl HS.out.1 Tryd.underlying195 rfl (by kernel_rfl) ?_) | ((with_reducible refine gate_store (t := 195) (p := 4) rfl ?_); refine put8 rfl rfl rfl gr 195 z8 (dn d) rfl rfl HS.out.2.1 (by kernel_rfl) rfl HS.out.2.2 HL.out ?_; intro wz hz hfar hbz; have HZ := Aside0.mk hz; have HBZ := Aside0.mk hbz; clear hz hfar hbz))
      refine bodyPost_ret (results_single rfl (.cell gr 195 (c8 (dn d)) (0, 0) _ rfl HZ.out Tryd.underlying195 rfl (by kernel_rfl) .nil)) rfl ?_
      exact ⟨rfl, HBZ.out⟩
set_option maxHeartbeats 2000000 in
set_option maxRecDepth 100000 in
theorem twice_calls (a b : Nat) (hb : b ≤ 1) (w : World) :
    Calls Tryd.prog 149 #[.agg (c8 (dn a)), .int .u64 b] w fun e w' => e = .returned (.agg (c8 (dn (a + a + b)))) ∧ Below w.heap.size w w' := by
  obtain ⟨w1, hw1⟩ : ∃ w1, w1 = ((w.alloc (.cells (c8 (dn a)) 195)).alloc (.cells z8 195)) := ⟨_, rfl⟩
  have ka : w1.heap[w.heap.size]? = some (.cells (c8 (mix (a + a + b) a 0)) 195 (0, 0)) := by rw [hw1, mix_zero]; exact blk_alloc (heap_alloc_new w _) _
  have kr : w1.heap[w.heap.size + 1]? = some (.cells z8 195 (0, 0)) := by rw [hw1]; exact new1 w _ _
  have hb1 : Below w.heap.size w w1 := by rw [hw1]; exact ((Below.refl _ w).alloc (Nat.le_refl _) _).alloc (by simp) _
  obtain ⟨ga, hga⟩ : ∃ g, g = w.heap.size := ⟨_, rfl⟩
  obtain ⟨gr, hgr⟩ : ∃ g, g = w.heap.size + 1 := ⟨_, rfl⟩
  rw [← hga] at ka
  rw [← hgr] at kr
  have HX : Aside0 (w1.heap[ga]? = some (.cells (c8 (mix (a + a + b) a 0)) 195 (0, 0)) ∧ w1.heap[gr]? = some (.cells z8 195 (0, 0)) ∧ Below w.heap.size w w1) := ⟨ka, kr, hb1⟩
  have HW := Lib.hid hw1
  have HA := Lib.hid hga
  have HR := Lib.hid hgr
  have HB1 := Lib.hid hb
  clear hw1 hga hgr ka kr hb1 hb
  go_enter Tryd.func149, Tryd.ntmps149
  go_wp2_with (fail)
  rw [← HW.out, ← HR.out, ← HA.out]
  go_loopw [1, 5] (fun v1 v5 wr => ∃ (i : Nat) (c : Int), Aside0 (i ≤ 8 ∧ c = (cy a a b i : Nat) ∧ wr.heap[ga]? = some (.cells (c8 (mix (a + a + b) a i)) 195 (0, 0)) ∧ wr.heap[gr]? = some (.cells z8 195 (0, 0)) ∧ Below w.heap.size w wr) ∧ v1 = .int .u64 c ∧ v5 = .int .i64 i) (fun _ v5 _ => (8 - intOf v5).toNat)
  case atStart => exact ⟨0, b, ⟨by omega, by rw [cy_zero], HX.out⟩, rfl, rfl⟩
  case round =>
    obtain ⟨i, c, HY, rfl, rfl⟩ := hrel
    clear HX
    by_cases hi : i < 8
    · have hlt : (i : Int) < 8 := by omega
      have h0 : (0 : Int) ≤ i := by omega
      obtain ⟨x, hx⟩ : ∃ x : Int, x = (dn a i : Nat) := ⟨_, rfl⟩
      have ca : wr.cell? ⟨ga, i, none⟩ = some (.int .u64 x) := by rw [blk_cell HY.out.2.2.1 i, c8_get _ hi, hx]; simp [mix]
      have fa := blk_frozen HY.out.2.2.1 i
      have x0 : 0 ≤ x := by omega
      have x1 : x ≤ 4294967295 := by have := dn_lt a i; omega
      have c0 : 0 ≤ c := by have := HY.out.2.1; omega
      have c1 : c ≤ 1 := by have := HY.out.2.1; have := cy_le a a b i HB1.out; omega
      have HXY := Lib.hid hx
      clear hx
      go_wp2
      go_roundw
      case rel =>
        have hX := HXY.out
        have hc := HY.out.2.1
        have s1 := cy_succ a a b i
        have s2 := dn_add a a b i
        have v2 : (2 * x + c) % 4294967296 = ((dn (a + a + b) i : Nat) : Int) := by omega
        refine ⟨i + 1, _, ⟨by omega, by omega, ?e2, ?e4, ?e5⟩, rfl, by go_num⟩
        case e2 => rw [v2]; exact blk_put HY.out.2.2.1 i _ (c8_set _ _ hi (by simp [mix]) (fun j hj => by unfold mix; have : (j < i + 1) = (j < i) := by apply propext; omega
                                                                                                          simp only [this]))
        case e4 => exact (Below.heap_setCell wr ⟨ga, i, none⟩ _ gr (by have h1 := HA.out; have h2 := HR.out; show gr ≠ ga; omega)).trans HY.out.2.2.2.1
        case e5 => exact (HY.out.2.2.2.2.setCell (by have h1 := HA.out; show w.heap.size ≤ ga; omega) _)
      case measure => simp [intOf]; omega
    · obtain rfl : i = 8 := by have := HY.out.1; omega
      have hk : wr.heap[ga]? = some (.cells (c8 (dn (a + a + b))) 195 (0, 0)) := by
        rw [HY.out.2.2.1, c8_congr (g := dn (a + a + b)) (fun j hj => by simp [mix, hj])]
      have hr := HY.out.2.2.2.1
      have hb := HY.out.2.2.2.2
      have HS := Aside0.mk (And.intro hk (And.intro hr hb))
      have HL := Lib.hid (show w.heap.size ≤ gr by have := HR.out; omega)
      clear HY hi hk hr hb
      go_wp2_with (first | ((with_reducible refine gate_dst (N := 23) rfl ?_); refine get8 rfl rfl ga 195 (dn (a + a + b)) _ rfl HS.out.1 Tryd.underlying195 rfl (by kernel_rfl) ?_) | ((with_reducible refine gate_store (t := 195) (p := 4) rfl ?_); refine put8 rfl rfl rfl gr 195 z8 (dn (a + a + b)) rfl rfl HS.out.2.1 (by kernel_rfl) rfl HS.out.2.2 HL.out ?_; intro wz hz hfar hbz; have HZ := Aside0.mk hz; have HBZ := Aside0.mk hbz; clear hz hfar hbz))
      refine bodyPost_ret (results_single rfl (.cell gr 195 (c8 (dn (a + a + b))) (0, 0) _ rfl HZ.out Tryd.underlying195 rfl (by kernel_rfl) .nil)) rfl ?_
      exact ⟨rfl, HBZ.out⟩
/-- which is the greater -/
def sg (a b : Nat) : Int := if b < a then 1 else if a < b then -1 else 0
set_option maxHeartbeats 2000000 in
set_option maxRecDepth 100000 in
theorem size_calls (a b : Nat) (hA : a < P 8) (hB : b < P 8) (w : World) :
    Calls Tryd.prog 150 #[.agg (c8 (dn a)), .agg (c8 (dn b))] w fun e w' => e = .returned (.int .i64 (sg a b)) ∧ Below w.heap.size w w' := by
  obtain ⟨w1, hw1⟩ : ∃ w1, w1 = ((w.alloc (.cells (c8 (dn a)) 195)).alloc (.cells (c8 (dn b)) 195)) := ⟨_, rfl⟩
  have ka : w1.heap[w.heap.size]? = some (.cells (c8 (dn a)) 195 (0, 0)) := by rw [hw1]; exact blk_alloc (heap_alloc_new w _) _
  have kb : w1.heap[w.heap.size + 1]? = some (.cells (c8 (dn b)) 195 (0, 0)) := by rw [hw1]; exact new1 w _ _
  have hb1 : Below w.heap.size w w1 := by rw [hw1]; exact ((Below.refl _ w).alloc (Nat.le_refl _) _).alloc (by simp) _
  obtain ⟨ga, hga⟩ : ∃ g, g = w.heap.size := ⟨_, rfl⟩
  obtain ⟨gb, hgb⟩ : ∃ g, g = w.heap.size + 1 := ⟨_, rfl⟩
  rw [← hga] at ka
  rw [← hgb] at kb
  have HX : Aside0 (w1.heap[ga]? = some (.cells (c8 (dn a)) 195 (0, 0)) ∧ w1.heap[gb]? = some (.cells (c8 (dn b)) 195 (0, 0)) ∧ Below w.heap.size w w1) := ⟨ka, kb, hb1⟩
  have HW := Lib.hid hw1
  have HGA := Lib.hid hga
  have HGB := Lib.hid hgb
  have HAB := Lib.hid (And.intro hA hB)
  obtain ⟨r, hr⟩ : ∃ r, r = sg a b := ⟨_, rfl⟩
  rw [← hr]
  have HR := Lib.hid hr
  clear hw1 hga hgb ka kb hb1 hA hB hr
  go_enter Tryd.func150, Tryd.ntmps150
  go_wp2_with (fail)
  rw [← HW.out, ← HGB.out, ← HGA.out]
  go_loopw [5] (fun v5 wr => ∃ (m : Nat) (q : Int), Aside0 (m ≤ 8 ∧ q = (m : Int) - 1 ∧ a / P m = b / P m ∧ wr.heap[ga]? = some (.cells (c8 (dn a)) 195 (0, 0)) ∧ wr.heap[gb]? = some (.cells (c8 (dn b)) 195 (0, 0)) ∧ Below w.heap.size w wr) ∧ v5 = .int .i64 q) (fun v5 _ => (intOf v5 + 1).toNat)
  case atStart => exact ⟨8, 7, ⟨by omega, by omega, by rw [Nat.div_eq_of_lt HAB.out.1, Nat.div_eq_of_lt HAB.out.2], HX.out⟩, rfl⟩
  case round =>
    obtain ⟨m, q, HY, rfl⟩ := hrel
    clear HX
    cases m with
    | zero =>
      obtain rfl : q = -1 := by have := HY.out.2.1; omega
      go_wp2
      go_ret
      refine ⟨?_, HY.out.2.2.2.2.2⟩
      have := HY.out.2.2.1
      simp only [P_zero, Nat.div_one] at this
      rw [HR.out]; unfold sg; rw [if_neg (by omega), if_neg (by omega)]; all_goals rfl
    | succ i =>
      obtain rfl : q = (i : Int) := by have := HY.out.2.1; omega
      have hi : i < 8 := by have := HY.out.1; omega
      have hlt : (i : Int) < 8 := by omega
      have h0 : (0 : Int) ≤ i := by omega
      obtain ⟨x, hx⟩ : ∃ x : Int, x = (dn a i : Nat) := ⟨_, rfl⟩
      obtain ⟨y, hy⟩ : ∃ y : Int, y = (dn b i : Nat) := ⟨_, rfl⟩
      have ca : wr.cell? ⟨ga, i, none⟩ = some (.int .u64 x) := by rw [blk_cell HY.out.2.2.2.1 i, c8_get _ hi, hx]
      have cb : wr.cell? ⟨gb, i, none⟩ = some (.int .u64 y) := by rw [blk_cell HY.out.2.2.2.2.1 i, c8_get _ hi, hy]
      have fa := blk_frozen HY.out.2.2.2.1 i
      have fb := blk_frozen HY.out.2.2.2.2.1 i
      have HXY := Lib.hid (And.intro hx hy)
      clear hx hy
      have HE := Lib.hid HY.out.2.2.1
      by_cases g1 : y < x
      · have g1' := decide_eq_true g1
        go_wp2
        go_region
        go_wp2
        go_ret
        refine ⟨?_, HY.out.2.2.2.2.2.drew⟩
        have := lt_of_dn HE.out.symm (show dn b i < dn a i by have := HXY.out; omega)
        rw [HR.out]; unfold sg; rw [if_pos this]; all_goals rfl
      · have g1' := decide_eq_false g1
        by_cases g2 : x < y
        · have g2' := decide_eq_true g2
          go_wp2
          go_region
          go_wp2
          go_region
          go_wp2
          go_ret
          refine ⟨?_, HY.out.2.2.2.2.2.drew.drew⟩
          have := lt_of_dn HE.out (show dn a i < dn b i by have := HXY.out; omega)
          rw [HR.out]; unfold sg; rw [if_neg (by omega), if_pos this]; all_goals rfl
        · have g2' := decide_eq_false g2
          go_wp2
          go_region
          go_wp2
          go_region
          go_wp2
          go_roundw
          case rel => exact ⟨i, _, ⟨by omega, rfl, div_eq_of_dn HE.out (by have := HXY.out; omega), HY.out.2.2.2.1, HY.out.2.2.2.2.1, HY.out.2.2.2.2.2.drew.drew⟩, rfl⟩
          case measure => simp [intOf]
abbrev o8 : Array Value := #[.int .u64 1, .int .u64 0, .int .u64 0, .int .u64 0, .int .u64 0, .int .u64 0, .int .u64 0, .int .u64 0]
theorem one_eq : o8 = c8 (dn 1) := by kernel_rfl
theorem zero_of {n : Nat} (h : n < P 8) (hd : ∀ j, j < 8 → dn n j = 0) : n = 0 := by
  have : ∀ k, k ≤ 8 → n % P k = 0 := by
    intro k
    induction k with
    | zero => intro _; simp [P_zero, Nat.mod_one]
    | succ k ih => intro hk; rw [mod_succ, ih (by omega), hd k (by omega)]; simp
  have h8 := this 8 (Nat.le_refl 8)
  rwa [Nat.mod_eq_of_lt h] at h8
def l8 (f : Nat → Nat) : List Int := [f 0, f 1, f 2, f 3, f 4, f 5, f 6, f 7]
theorem eqz (n : Nat) (h : n < P 8) (W : World) : (binOp .eql 195 (.agg (c8 (dn n))) (.agg z8)).run Tryd.prog W = .ok (.bool (n == 0)) W := by
  have he := run_equalIn_ints (P := Tryd.prog) W 9998 195 40 8 .u64 Tryd.underlying195 Tryd.underlying40 (fun _ => by kernel_rfl) (l8 (dn n)) [0, 0, 0, 0, 0, 0, 0, 0] rfl rfl
  have e1 : ((l8 (dn n)).map (Value.int .u64)).toArray = c8 (dn n) := rfl
  have e2 : (([0, 0, 0, 0, 0, 0, 0, 0] : List Int).map (Value.int .u64)).toArray = z8 := rfl
  have e3 : (l8 (dn n) == [0, 0, 0, 0, 0, 0, 0, 0]) = (n == 0) := by
    rw [Bool.eq_iff_iff, beq_iff_eq, beq_iff_eq]
    constructor
    · intro e
      simp only [l8, List.cons.injEq, and_true] at e
      refine zero_of h (fun j hj => ?_)
      have : j = 0 ∨ j = 1 ∨ j = 2 ∨ j = 3 ∨ j = 4 ∨ j = 5 ∨ j = 6 ∨ j = 7 := by omega
      obtain ⟨q0, q1, q2, q3, q4, q5, q6, q7⟩ := e
      rcases this with rfl | rfl | rfl | rfl | rfl | rfl | rfl | rfl <;> omega
    · intro e
      subst e
      simp [l8, dn]
  rw [e1, e2, e3] at he
  have hb : (binOp .eql 195 (.agg (c8 (dn n))) (.agg z8)).run Tryd.prog W = ((Op.equalIn 10000 195 (.agg (c8 (dn n))) (.agg z8)).run Tryd.prog W).andThen fun b w => .ok (.bool b) w := by
    simp [binOp, Op.equal, Op.maxDepth]
  rw [hb, he]; rfl
/-- a number's nine cells: below 0 or not, its digits -/
def bg (b : Bool) (f : Nat → Nat) : Array Value := #[.bool b, .int .u64 (f 0), .int .u64 (f 1), .int .u64 (f 2), .int .u64 (f 3), .int .u64 (f 4), .int .u64 (f 5), .int .u64 (f 6), .int .u64 (f 7)]
abbrev zb (b : Bool) : Array Value := #[.bool b, .int .u64 0, .int .u64 0, .int .u64 0, .int .u64 0, .int .u64 0, .int .u64 0, .int .u64 0, .int .u64 0]
theorem zb_eq (b : Bool) : zb b = bg b (dn 0) := by kernel_rfl
theorem bg_get (b : Bool) (f : Nat → Nat) {i : Nat} (h : i < 8) : (bg b f)[1 + i]? = some (.int .u64 (f i)) := by
  have : i = 0 ∨ i = 1 ∨ i = 2 ∨ i = 3 ∨ i = 4 ∨ i = 5 ∨ i = 6 ∨ i = 7 := by omega
  rcases this with rfl | rfl | rfl | rfl | rfl | rfl | rfl | rfl <;> rfl
theorem bg_neg (b : Bool) (f : Nat → Nat) : (bg b f)[0]? = some (.bool b) := rfl
theorem bg_setneg (b c : Bool) (f : Nat → Nat) : (bg b f).setIfInBounds 0 (.bool c) = bg c f := rfl
theorem bg_congr {b : Bool} {f g : Nat → Nat} (h : ∀ j, j < 8 → f j = g j) : bg b f = bg b g := by
  unfold bg
  rw [h 0 (by omega), h 1 (by omega), h 2 (by omega), h 3 (by omega), h 4 (by omega), h 5 (by omega), h 6 (by omega), h 7 (by omega)]
theorem bg_set (b : Bool) (f g : Nat → Nat) {i v : Nat} (h : i < 8) (hv : g i = v) (hg : ∀ j, j ≠ i → g j = f j) : (bg b f).setIfInBounds (1 + i) (.int .u64 (v : Int)) = bg b g := by
  subst hv
  have h' : i = 0 ∨ i = 1 ∨ i = 2 ∨ i = 3 ∨ i = 4 ∨ i = 5 ∨ i = 6 ∨ i = 7 := by omega
  have e : bg b g = bg b (fun j => if j = i then g i else f j) := bg_congr (fun j _ => by by_cases hj : j = i <;> simp [hj]; exact hg j hj)
  rw [e]
  rcases h' with rfl | rfl | rfl | rfl | rfl | rfl | rfl | rfl <;> rfl
section
variable {P : Program} {ops : Array Oper} {rest : List Oper} {o : Oper} {a : Act} {w : World} {Q : Exit → Act → World → Prop}
theorem get81 (hgd : o.guard = none) {ty : TypeId} {x : Operand} (ho : o.op = .load ty x) (g : Nat) (t : TypeId) (b : Bool) (f : Nat → Nat) (d : TypeDesc) (hx : a.eval x = .pointer (some ⟨g, 1, none⟩)) (hg : w.heap[g]? = some (.cells (bg b f) t (0, 0))) (hu : P.underlying ty = some d) (hd : (match d with | .struct _ | .array _ _ => true | _ => false) = true) (hi : (P.info? ty).map (·.size) = some 8) (h : wpList P ops Q rest (a.put o.dst (.agg (c8 f))) w) : wpList P ops Q (o :: rest) a w :=
  rowget_event hgd ho g 1 t (bg b f) (c8 f) d hx hg rfl hu hd hi h
theorem get9 (hgd : o.guard = none) {ty : TypeId} {x : Operand} (ho : o.op = .load ty x) (g : Nat) (t : TypeId) (b : Bool) (f : Nat → Nat) (d : TypeDesc) (hx : a.eval x = .pointer (some ⟨g, 0, none⟩)) (hg : w.heap[g]? = some (.cells (bg b f) t (0, 0))) (hu : P.underlying ty = some d) (hd : (match d with | .struct _ | .array _ _ => true | _ => false) = true) (hi : (P.info? ty).map (·.size) = some 9) (h : wpList P ops Q rest (a.put o.dst (.agg (bg b f))) w) : wpList P ops Q (o :: rest) a w :=
  rowget_event hgd ho g 0 t (bg b f) (bg b f) d hx hg rfl hu hd hi h
theorem c8_one (f : Nat → Nat) : ∀ q ∈ (c8 f).toList, q.oneCell' = true := by
  intro q hq
  simp only [c8, List.mem_cons, List.not_mem_nil, or_false] at hq
  rcases hq with rfl | rfl | rfl | rfl | rfl | rfl | rfl | rfl <;> rfl
theorem bg_one (b : Bool) (f : Nat → Nat) : ∀ q ∈ (bg b f).toList, q.oneCell' = true := by
  intro q hq
  simp only [bg, List.mem_cons, List.not_mem_nil, or_false] at hq
  rcases hq with rfl | rfl | rfl | rfl | rfl | rfl | rfl | rfl | rfl <;> rfl
theorem put81 (hgd : o.guard = none) {ty : TypeId} {x y : Operand} (ho : o.op = .store ty x y) (hN : o.dst = none) (g : Nat) (t : TypeId) (b : Bool) (h0 f : Nat → Nat) (hx : a.eval x = .pointer (some ⟨g, 1, none⟩)) (hy : a.eval y = .agg (c8 f)) (hg : w.heap[g]? = some (.cells (bg b h0) t (0, 0))) (hi : (P.info? ty).map (·.size) = some 8) {B : Nat} {w0 : World} (HB : Below B w0 w) (hle : B ≤ g)
    (h : ∀ w', w'.heap[g]? = some (.cells (bg b f) t (0, 0)) → (∀ k, k ≠ g → w'.heap[k]? = w.heap[k]?) → Below B w0 w' → wpList P ops Q rest a w') : wpList P ops Q (o :: rest) a w :=
  rowput_event hgd ho hN g 1 t (bg b h0) (bg b f) (.agg (c8 f)) (c8 f).toList hx hy rfl hg hi (Nat.le_refl 9) (c8_one f) rfl HB hle h
theorem put9 (hgd : o.guard = none) {ty : TypeId} {x y : Operand} (ho : o.op = .store ty x y) (hN : o.dst = none) (g : Nat) (t : TypeId) (cur : Array Value) (b : Bool) (f : Nat → Nat) (hx : a.eval x = .pointer (some ⟨g, 0, none⟩)) (hy : a.eval y = .agg (bg b f)) (hg : w.heap[g]? = some (.cells cur t (0, 0))) (hi : (P.info? ty).map (·.size) = some 9) (hcur : cur.size = 9) {B : Nat} {w0 : World} (HB : Below B w0 w) (hle : B ≤ g)
    (h : ∀ w', w'.heap[g]? = some (.cells (bg b f) t (0, 0)) → (∀ k, k ≠ g → w'.heap[k]? = w.heap[k]?) → Below B w0 w' → wpList P ops Q rest a w') : wpList P ops Q (o :: rest) a w := by
  refine rowput_event hgd ho hN g 0 t cur (bg b f) (.agg (bg b f)) (bg b f).toList hx hy rfl hg hi ?_ (bg_one b f) ?_ HB hle h
  · show 0 + 9 ≤ cur.size; omega
  · have : cur.toList.drop (0 + (bg b f).toList.length) = [] := by
      rw [List.drop_eq_nil_iff]; show cur.toList.length ≤ 0 + 9; rw [Array.length_toList]; omega
    rw [this]; simp
theorem put9z (hgd : o.guard = none) {ty : TypeId} {x y : Operand} (ho : o.op = .store ty x y) (hN : o.dst = none) (g : Nat) (t : TypeId) (cur : Array Value) (b : Bool) (hx : a.eval x = .pointer (some ⟨g, 0, none⟩)) (hy : a.eval y = .agg (zb b)) (hg : w.heap[g]? = some (.cells cur t (0, 0))) (hi : (P.info? ty).map (·.size) = some 9) (hcur : cur.size = 9) {B : Nat} {w0 : World} (HB : Below B w0 w) (hle : B ≤ g)
    (h : ∀ w', w'.heap[g]? = some (.cells (bg b (dn 0)) t (0, 0)) → (∀ k, k ≠ g → w'.heap[k]? = w.heap[k]?) → Below B w0 w' → wpList P ops Q rest a w') : wpList P ops Q (o :: rest) a w :=
  put9 hgd ho hN g t cur b (dn 0) hx (by rw [hy, zb_eq]) hg hi hcur HB hle h
/-- a store of eight, of nine cells: the world behind it -/
theorem put81_facts (g : Nat) (t : TypeId) (b : Bool) (h0 f : Nat → Nat) (hg : w.heap[g]? = some (.cells (bg b h0) t (0, 0))) {B : Nat} {w0 : World} (HB : Below B w0 w) (hle : B ≤ g) :
    (w.setCells g 1 (c8 f).toList).heap[g]? = some (.cells (bg b f) t (0, 0)) ∧ (∀ k, k ≠ g → (w.setCells g 1 (c8 f).toList).heap[k]? = w.heap[k]?) ∧ Below B w0 (w.setCells g 1 (c8 f).toList) := by
  obtain ⟨cur2, h3, h4, h5⟩ := setCells_row (c8 f).toList 1 w (bg b h0) hg (Nat.le_refl 9)
  obtain ⟨s1, s2, s3, s4⟩ := setCells_same g (c8 f).toList 1 w
  have e2 : cur2 = bg b f := Array.toList_inj.1 (h5.trans rfl)
  subst e2
  have hfar : ∀ k, k ≠ g → (w.setCells g 1 (c8 f).toList).heap[k]? = w.heap[k]? := fun k hk => setCells_far (c8 f).toList 1 k hk
  exact ⟨h3, hfar, s1.trans HB.os, s2.trans HB.tape, s3.trans HB.output, Nat.le_trans HB.size (Nat.le_of_eq s4.symm), fun k hk => (hfar k (by omega)).trans (HB.block k hk)⟩
theorem put8_facts (g : Nat) (t : TypeId) (cur : Array Value) (f : Nat → Nat) (hg : w.heap[g]? = some (.cells cur t (0, 0))) (hcur : cur.size = 8) {B : Nat} {w0 : World} (HB : Below B w0 w) (hle : B ≤ g) :
    (w.setCells g 0 (c8 f).toList).heap[g]? = some (.cells (c8 f) t (0, 0)) ∧ (∀ k, k ≠ g → (w.setCells g 0 (c8 f).toList).heap[k]? = w.heap[k]?) ∧ Below B w0 (w.setCells g 0 (c8 f).toList) := by
  have hfit : 0 + (c8 f).toList.length ≤ cur.size := by show 0 + 8 ≤ cur.size; omega
  obtain ⟨cur2, h3, h4, h5⟩ := setCells_row (c8 f).toList 0 w cur hg hfit
  obtain ⟨s1, s2, s3, s4⟩ := setCells_same g (c8 f).toList 0 w
  have e2 : cur2 = c8 f := by
    refine Array.toList_inj.1 (h5.trans ?_)
    have : cur.toList.drop (0 + (c8 f).toList.length) = [] := by
      rw [List.drop_eq_nil_iff]; show cur.toList.length ≤ 0 + 8; rw [Array.length_toList]; omega
    rw [this]; simp
  subst e2
  have hfar : ∀ k, k ≠ g → (w.setCells g 0 (c8 f).toList).heap[k]? = w.heap[k]? := fun k hk => setCells_far (c8 f).toList 0 k hk
  exact ⟨h3, hfar, s1.trans HB.os, s2.trans HB.tape, s3.trans HB.output, Nat.le_trans HB.size (Nat.le_of_eq s4.symm), fun k hk => (hfar k (by omega)).trans (HB.block k hk)⟩
theorem put9_facts (g : Nat) (t : TypeId) (cur : Array Value) (b : Bool) (f : Nat → Nat) (hg : w.heap[g]? = some (.cells cur t (0, 0))) (hcur : cur.size = 9) {B : Nat} {w0 : World} (HB : Below B w0 w) (hle : B ≤ g) :
    (w.setCells g 0 (bg b f).toList).heap[g]? = some (.cells (bg b f) t (0, 0)) ∧ (∀ k, k ≠ g → (w.setCells g 0 (bg b f).toList).heap[k]? = w.heap[k]?) ∧ Below B w0 (w.setCells g 0 (bg b f).toList) := by
  have hfit : 0 + (bg b f).toList.length ≤ cur.size := by show 0 + 9 ≤ cur.size; omega
  obtain ⟨cur2, h3, h4, h5⟩ := setCells_row (bg b f).toList 0 w cur hg hfit
  obtain ⟨s1, s2, s3, s4⟩ := setCells_same g (bg b f).toList 0 w
  have e2 : cur2 = bg b f := by
    refine Array.toList_inj.1 (h5.trans ?_)
    have : cur.toList.drop (0 + (bg b f).toList.length) = [] := by
      rw [List.drop_eq_nil_iff]; show cur.toList.length ≤ 0 + 9; rw [Array.length_toList]; omega
    rw [this]; simp
  subst e2
  have hfar : ∀ k, k ≠ g → (w.setCells g 0 (bg b f).toList).heap[k]? = w.heap[k]? := fun k hk => setCells_far (bg b f).toList 0 k hk
  exact ⟨h3, hfar, s1.trans HB.os, s2.trans HB.tape, s3.trans HB.output, Nat.le_trans HB.size (Nat.le_of_eq s4.symm), fun k hk => (hfar k (by omega)).trans (HB.block k hk)⟩
/-- a load of eight, of nine cells in a region that draws its order -/
theorem get_run {ty : TypeId} {x : Operand} (ho : o.op = .load ty x) (g off : Nat) (t : TypeId) (cs seg : Array Value) (d : TypeDesc) (hx : a.eval x = .pointer (some ⟨g, off, none⟩)) (hg : w.heap[g]? = some (.cells cs t (0, 0))) (hs : (cs.toList.drop off).take seg.size = seg.toList) (hu : P.underlying ty = some d) (hd : (match d with | .struct _ | .array _ _ => true | _ => false) = true) (hi : (P.info? ty).map (·.size) = some seg.size) : (execOp a.eval o).run P w = .ok (.value (.agg seg)) w := by
  have hl : (loadCells ⟨g, off, none⟩ seg.toList.length).run P w = .ok seg.toList.toArray w := run_loadCells_list (P := P) w ⟨g, off, none⟩ seg.toList (fun j v hv => by
    have hadd : (⟨g, off, none⟩ : Addr).add j = ⟨g, off + j, none⟩ := by unfold Addr.add; split <;> simp_all
    rw [hadd, blk_cell hg]
    have hj : j < seg.size := by have := (List.getElem?_eq_some_iff.1 hv).1; simpa using this
    rw [← hs, List.getElem?_take_of_lt hj, List.getElem?_drop, Array.getElem?_toList] at hv
    exact hv)
  cases hq : P.info? ty with
  | none => simp [hq] at hi
  | some i =>
    have hsz : i.size = seg.size := by simpa [hq] using hi
    have hagg : (isAgg ty).run P w = .ok true w := by
      unfold isAgg
      rw [Sem.run_bind, run_underlying hu w]
      cases d <;> simp_all
    have hlv : (loadVar ty ⟨g, off, none⟩).run P w = .ok (.agg seg) w := by
      simp only [Array.length_toList, Array.toArray_toList] at hl
      simp [loadVar, Sem.run_bind, hagg, sizeOf, typeInfo, hq, hsz, hl]
    unfold execOp
    simp only [ho, hx, Instr.loadAt, Instr.sureAddr, Sem.run_bind, Sem.run_pure, Result.andThen_ok, hlv]
end
theorem build9 {o : Oper} {a : Act} {w : World} {x y : Operand} (ho : o.op = .build 197 #[(0, x), (1, y)]) (b : Bool) (f : Nat → Nat) (hx : a.eval x = .bool b) (hy : a.eval y = .agg (c8 f)) : (execOp a.eval o).run Tryd.prog w = .ok (.value (.agg (bg b f))) w := by
  have hb : (Instr.build 197 #[(0, Value.bool b), (1, Value.agg (c8 f))]).run Tryd.prog w = .ok (.agg (bg b f)) w := run_build w _ _ _ (by kernel_rfl)
  unfold execOp
  simp only [ho, List.map_toArray, List.map_cons, List.map_nil, hx, hy, Sem.run_bind, hb, Result.andThen_ok, Sem.run_pure]
theorem build8 {o : Oper} {a : Act} {w : World} {y : Operand} (ho : o.op = .build 197 #[(1, y)]) (f : Nat → Nat) (hy : a.eval y = .agg (c8 f)) : (execOp a.eval o).run Tryd.prog w = .ok (.value (.agg (bg false f))) w := by
  have hb : (Instr.build 197 #[(1, Value.agg (c8 f))]).run Tryd.prog w = .ok (.agg (bg false f)) w := run_build w _ _ _ (by kernel_rfl)
  unfold execOp
  simp only [ho, List.map_toArray, List.map_cons, List.map_nil, hy, Sem.run_bind, hb, Result.andThen_ok, Sem.run_pure]
/-- a number as a value -/
def big (z : Int) : Array Value := bg (decide (z < 0)) (dn z.natAbs)
/-- the four lowest digits -/
abbrev b4 (b : Bool) (v0 v1 v2 v3 : Int) : Array Value := #[.bool b, .int .u64 v0, .int .u64 v1, .int .u64 v2, .int .u64 v3, .int .u64 0, .int .u64 0, .int .u64 0, .int .u64 0]
theorem b4_eq (b : Bool) (hi lo : Nat) (h1 : hi < 18446744073709551616) (h2 : lo < 18446744073709551616) : b4 b ((lo : Int) % 4294967296) ((lo : Int) / 4294967296) ((hi : Int) % 4294967296) ((hi : Int) / 4294967296) = bg b (dn (hi * 18446744073709551616 + lo)) := by
  have d0 : dn (hi * 18446744073709551616 + lo) 0 = lo % 4294967296 := by unfold dn P; omega
  have d1 : dn (hi * 18446744073709551616 + lo) 1 = lo / 4294967296 := by unfold dn P; omega
  have d2 : dn (hi * 18446744073709551616 + lo) 2 = hi % 4294967296 := by unfold dn P; omega
  have d3 : dn (hi * 18446744073709551616 + lo) 3 = hi / 4294967296 := by unfold dn P; omega
  have dz : ∀ j, 4 ≤ j → dn (hi * 18446744073709551616 + lo) j = 0 := fun j hj => by
    apply dn_zero_of_lt
    have := P_mono hj
    have e4 : P 4 = 340282366920938463463374607431768211456 := by decide
    omega
  unfold bg
  rw [d0, d1, d2, d3, dz 4 (by omega), dz 5 (by omega), dz 6 (by omega), dz 7 (by omega)]
  simp
set_option maxHeartbeats 2000000 in
set_option maxRecDepth 100000 in
theorem one_calls (w : World) : Calls Tryd.prog 154 #[] w fun e w' => e = .returned (.agg (c8 (dn 1))) ∧ Below w.heap.size w w' := by
  obtain ⟨w1, hw1⟩ : ∃ w1, w1 = ((w.alloc (.cells z8 195)).alloc (.cells o8 195)) := ⟨_, rfl⟩
  have k0 : w1.heap[w.heap.size]? = some (.cells z8 195 (0, 0)) := by rw [hw1]; exact blk_alloc (heap_alloc_new w _) _
  have k1 : w1.heap[w.heap.size + 1]? = some (.cells (c8 (dn 1)) 195 (0, 0)) := by rw [hw1, one_eq]; exact new1 w _ _
  have hb1 : Below w.heap.size w w1 := by rw [hw1]; exact ((Below.refl _ w).alloc (Nat.le_refl _) _).alloc (by simp) _
  obtain ⟨g0, hg0⟩ : ∃ g, g = w.heap.size := ⟨_, rfl⟩
  obtain ⟨g1, hg1⟩ : ∃ g, g = w.heap.size + 1 := ⟨_, rfl⟩
  rw [← hg0] at k0
  rw [← hg1] at k1
  have HX := Aside0.mk (And.intro k0 (And.intro k1 hb1))
  have HL := Lib.hid (show w.heap.size ≤ g0 by omega)
  have HW := Lib.hid hw1
  have H0 := Lib.hid hg0
  have H1 := Lib.hid hg1
  clear hw1 hg0 hg1 k0 k1 hb1
  go_enter Tryd.func154, Tryd.ntmps154
  go_upto_region 3 with (fail)
  rw [← HW.out, ← H1.out, ← H0.out]
  go_wp2_with (first | ((with_reducible refine gate_dst (N := 3) rfl ?_); refine get8 rfl rfl g1 195 (dn 1) _ rfl HX.out.2.1 Tryd.underlying195 rfl (by kernel_rfl) ?_) | ((with_reducible refine gate_store (t := 195) (p := 0) rfl ?_); refine put8 rfl rfl rfl g0 195 z8 (dn 1) rfl rfl HX.out.1 (by kernel_rfl) rfl HX.out.2.2 HL.out ?_; intro wz hz hfar hbz; have HZwz := Aside0.mk hz; have HFwz := Aside0.mk hfar; have HBwz := Aside0.mk hbz; clear hz hfar hbz))
  refine bodyPost_ret (results_single rfl (.cell g0 195 (c8 (dn 1)) (0, 0) _ rfl HZwz.out Tryd.underlying195 rfl (by kernel_rfl) .nil)) rfl ?_
  exact ⟨rfl, HBwz.out⟩
set_option maxHeartbeats 2000000 in
set_option maxRecDepth 100000 in
theorem zero_calls (n : Nat) (hn : n < P 8) (w : World) : Calls Tryd.prog 132 #[.agg (c8 (dn n))] w fun e w' => e = .returned (.bool (n == 0)) ∧ Below w.heap.size w w' := by
  obtain ⟨w1, hw1⟩ : ∃ w1, w1 = w.alloc (.cells (c8 (dn n)) 195) := ⟨_, rfl⟩
  have k0 : w1.heap[w.heap.size]? = some (.cells (c8 (dn n)) 195 (0, 0)) := by rw [hw1]; exact heap_alloc_new w _
  have hb1 : Below w.heap.size w w1 := by rw [hw1]; exact (Below.refl _ w).alloc (Nat.le_refl _) _
  obtain ⟨g0, hg0⟩ : ∃ g, g = w.heap.size := ⟨_, rfl⟩
  rw [← hg0] at k0
  have HX := Aside0.mk (And.intro k0 hb1)
  have HW := Lib.hid hw1
  have H0 := Lib.hid hg0
  have he := fun W : World => eqz n hn W
  clear hw1 hg0 k0 hb1 hn
  go_enter Tryd.func132, Tryd.ntmps132
  go_upto_region 1 with (fail)
  rw [← HW.out, ← H0.out]
  go_wp2_with (first | ((with_reducible refine gate_dst (N := 3) rfl ?_); refine get8 rfl rfl g0 195 (dn n) _ rfl HX.out.1 Tryd.underlying195 rfl (by kernel_rfl) ?_))
  go_ret
  exact ⟨rfl, HX.out.2⟩
set_option maxHeartbeats 2000000 in
set_option maxRecDepth 100000 in
theorem from_pos (h l : Int) (h0 : -9223372036854775808 ≤ h) (h1 : h ≤ 9223372036854775807) (l0 : 0 ≤ l) (l1 : l ≤ 18446744073709551615) (hs : 0 ≤ h) (w : World) : Calls Tryd.prog 153 #[.agg #[.int .i64 h, .int .u64 l]] w fun e w' => e = .returned (.agg (big (h * 18446744073709551616 + l))) ∧ Below w.heap.size w w' := by
  obtain ⟨w1, hw1⟩ : ∃ w1, w1 = ((w.alloc (.cells #[.int .i64 h, .int .u64 l] 243)).alloc (.cells (zb false) 197)) := ⟨_, rfl⟩
  have k1 : w1.heap[w.heap.size]? = some (.cells #[.int .i64 h, .int .u64 l] 243 (0, 0)) := by rw [hw1]; exact blk_alloc (heap_alloc_new w _) _
  have k2 : w1.heap[w.heap.size + 1]? = some (.cells (zb false) 197 (0, 0)) := by rw [hw1]; exact new1 w _ _
  have hb1 : Below w.heap.size w w1 := by rw [hw1]; exact ((Below.refl _ w).alloc (Nat.le_refl _) _).alloc (by simp) _
  have hn1 : w1.heap.size = w.heap.size + 1 + 1 := by rw [hw1]; simp
  obtain ⟨g1, hg1⟩ : ∃ g, g = w.heap.size := ⟨_, rfl⟩
  obtain ⟨g2, hg2⟩ : ∃ g, g = w.heap.size + 1 := ⟨_, rfl⟩
  obtain ⟨g3, hg3⟩ : ∃ g, g = w1.heap.size := ⟨_, rfl⟩
  rw [← hg1] at k1
  rw [← hg2] at k2
  have HX := Aside0.mk (And.intro k1 (And.intro k2 hb1))
  have HL2 := Lib.hid (show w.heap.size ≤ g2 by omega)
  have HL3 := Lib.hid (show w.heap.size ≤ g3 by omega)
  have HD := Lib.hid (show g1 ≠ g3 ∧ g2 ≠ g3 ∧ g2 ≠ g1 by omega)
  have HW := Lib.hid hw1
  have H1 := Lib.hid hg1
  have H2 := Lib.hid hg2
  have H3 := Lib.hid hg3
  have cx0 : w1.cell? ⟨g1, 0, none⟩ = some (.int .i64 h) := (blk_cell k1 0).trans rfl
  have cx1 : w1.cell? ⟨g1, 1, none⟩ = some (.int .u64 l) := (blk_cell k1 1).trans rfl
  have fx0 := blk_frozen k1 0
  have fx1 := blk_frozen k1 1
  clear hw1 hg1 hg2 hg3 k1 k2 hb1 hn1
  go_enter Tryd.func153, Tryd.ntmps153
  have hsd := decide_eq_false (show ¬ h < 0 by omega)
  go_upto_region 1 with (fail)
  rw [← HW.out, ← H2.out, ← H1.out]
  go_upto_region 2 with (((with_reducible refine gate_store (t := 197) (p := 3) rfl ?_); refine put9z rfl rfl rfl w1.heap.size 197 (zb false) (false) rfl rfl (heap_alloc_new w1 _) (by kernel_rfl) rfl (HX.out.2.2.alloc HX.out.2.2.size _) HX.out.2.2.size ?_; intro wz hz hfar hbz; rw [← H3.out] at hz hfar; have HZwz := Aside0.mk hz; have HFwz := Aside0.mk hfar; have HBwz := Aside0.mk hbz; clear hz hfar hbz))
  rw [← H3.out]
  have kx : wz.heap[g1]? = some (.cells #[.int .i64 h, .int .u64 l] 243 (0, 0)) := (HFwz.out g1 HD.out.1).trans (blk_alloc HX.out.1 _)
  have ky : wz.heap[g2]? = some (.cells (zb false) 197 (0, 0)) := (HFwz.out g2 HD.out.2.1).trans (blk_alloc HX.out.2.1 _)
  clear cx0 cx1 fx0 fx1 HFwz
  have HK := Aside0.mk (And.intro kx ky)
  have cx0 : wz.cell? ⟨g1, 0, none⟩ = some (.int .i64 h) := (blk_cell kx 0).trans rfl
  have cx1 : wz.cell? ⟨g1, 1, none⟩ = some (.int .u64 l) := (blk_cell kx 1).trans rfl
  have fx0 := blk_frozen kx 0
  have fx1 := blk_frozen kx 1
  have hz0 : wz.heap[g3]? = some (.cells (zb false) 197 (0, 0)) := by rw [zb_eq]; exact HZwz.out
  have cz0 : wz.cell? ⟨g3, 0, none⟩ = some (.bool false) := (blk_cell hz0 0).trans rfl
  have cz1 : wz.cell? ⟨g3, 1, none⟩ = some (.int .u64 0) := (blk_cell hz0 1).trans rfl
  have cz2 : wz.cell? ⟨g3, 2, none⟩ = some (.int .u64 0) := (blk_cell hz0 2).trans rfl
  have cz3 : wz.cell? ⟨g3, 3, none⟩ = some (.int .u64 0) := (blk_cell hz0 3).trans rfl
  have cz4 : wz.cell? ⟨g3, 4, none⟩ = some (.int .u64 0) := (blk_cell hz0 4).trans rfl
  have fz0 := blk_frozen hz0 0
  have fz1 := blk_frozen hz0 1
  have fz2 := blk_frozen hz0 2
  have fz3 := blk_frozen hz0 3
  have fz4 := blk_frozen hz0 4
  have HZ0 := Aside0.mk hz0
  clear kx ky hz0
  go_region
  go_upto_region 6 with (fail)
  refine name_w (fun W4 hW4 => ?_)
  have hk : W4.heap[g3]? = some (.cells (b4 false (l % 4294967296) (l / 4294967296) (h % 4294967296) (h / 4294967296)) 197 (0, 0)) := by
    rw [hW4]
    exact blk_put (blk_put (blk_put (blk_put HZ0.out 1 _ rfl) 2 _ rfl) 3 _ rfl) 4 _ rfl
  have h4far : ∀ k, k ≠ g3 → W4.heap[k]? = wz.heap[k]? := fun k hk => by
    rw [hW4]
    exact (Below.heap_setCell _ ⟨g3, 4, none⟩ _ k hk).trans ((Below.heap_setCell _ ⟨g3, 3, none⟩ _ k hk).trans ((Below.heap_setCell _ ⟨g3, 2, none⟩ _ k hk).trans (Below.heap_setCell _ ⟨g3, 1, none⟩ _ k hk)))
  have hb4 : Below w.heap.size w W4 := by
    rw [hW4]
    exact (((HBwz.out.drew.setCell HL3.out _).setCell HL3.out _).setCell HL3.out _).setCell HL3.out _
  have ky4 := (h4far g2 HD.out.2.1).trans HK.out.2
  obtain ⟨m, hm⟩ : ∃ m : Nat, m = h.toNat * 18446744073709551616 + l.toNat := ⟨_, rfl⟩
  have hk' : W4.heap[g3]? = some (.cells (bg false (dn m)) 197 (0, 0)) := by
    rw [hk, hm, ← b4_eq false _ _ (by omega) (by omega), show ((h.toNat : Nat) : Int) = h by omega, show ((l.toNat : Nat) : Int) = l by omega]
  have c40 : W4.cell? ⟨g3, 0, none⟩ = some (.bool false) := (blk_cell hk' 0).trans rfl
  have f40 := blk_frozen hk' 0
  have HQ := Aside0.mk (And.intro hk' (And.intro ky4 hb4))
  have HM := Lib.hid hm
  clear hW4 hk h4far hb4 ky4 hk' cx0 cx1 fx0 fx1 cz0 cz1 cz2 cz3 cz4 fz0 fz1 fz2 fz3 fz4 HZ0 HK HZwz HBwz HX hm
  go_wp2_with (first | ((with_reducible refine gate_dst (N := 44) rfl ?_); refine get9 rfl rfl g3 197 (false) (dn m) _ rfl HQ.out.1 Tryd.underlying197 rfl (by kernel_rfl) ?_) | ((with_reducible refine gate_store (t := 197) (p := 2) rfl ?_); refine put9 rfl rfl rfl g2 197 (zb false) (false) (dn m) rfl rfl HQ.out.2.1 (by kernel_rfl) rfl HQ.out.2.2 HL2.out ?_; intro wy hz hfar hbz; have HZwy := Aside0.mk hz; have HFwy := Aside0.mk hfar; have HBwy := Aside0.mk hbz; clear hz hfar hbz))
  have hbig : big (h * 18446744073709551616 + l) = bg false (dn m) := by
    unfold big
    rw [decide_eq_false (show ¬ h * 18446744073709551616 + l < 0 by omega), show (h * 18446744073709551616 + l).natAbs = m by rw [HM.out]; omega]
  refine bodyPost_ret (results_single rfl (.cell g2 197 (bg false (dn m)) (0, 0) _ rfl HZwy.out Tryd.underlying197 rfl (by kernel_rfl) .nil)) rfl ?_
  exact ⟨by rw [hbig], HBwy.out⟩
set_option maxHeartbeats 2000000 in
set_option maxRecDepth 100000 in
theorem int_pos (a : Int) (h0 : -9223372036854775808 ≤ a) (h1 : a ≤ 9223372036854775807) (hs : 0 ≤ a) (w : World) : Calls Tryd.prog 129 #[.int .i64 a] w fun e w' => e = .returned (.agg (big a)) ∧ Below w.heap.size w w' := by
  obtain ⟨w1, hw1⟩ : ∃ w1, w1 = w.alloc (.cells (zb false) 197) := ⟨_, rfl⟩
  have k1 : w1.heap[w.heap.size]? = some (.cells (zb false) 197 (0, 0)) := by rw [hw1]; exact heap_alloc_new w _
  have hb1 : Below w.heap.size w w1 := by rw [hw1]; exact (Below.refl _ w).alloc (Nat.le_refl _) _
  obtain ⟨g2, hg2⟩ : ∃ g, g = w.heap.size := ⟨_, rfl⟩
  rw [← hg2] at k1
  have HX := Aside0.mk (And.intro k1 hb1)
  have HL := Lib.hid (show w.heap.size ≤ g2 by omega)
  have HW := Lib.hid hw1
  have H2 := Lib.hid hg2
  clear hw1 k1 hb1 hg2
  have hF : ∀ W, Calls Tryd.prog 153 #[.agg #[.int .i64 0, .int .u64 a]] W fun e w' => e = .returned (.agg (big a)) ∧ Below W.heap.size W w' := fun W => by
    have := from_pos 0 a (by omega) (by omega) (by omega) (by omega) (by omega) W
    rwa [show (0 : Int) * 18446744073709551616 + a = a by omega] at this
  have hsd := decide_eq_false (show ¬ a < 0 by omega)
  go_enter Tryd.func129, Tryd.ntmps129
  go_upto_region 1 with (fail)
  rw [← HW.out, ← H2.out]
  go_wp2_with (first | (go_at_call 153; (with_reducible refine (hF _).mono ?_); rintro e w2 ⟨rfl, hb2⟩; have HY := Aside0.mk (And.intro (blk_below HX.out.1 hb2) (HX.out.2.trans (hb2.mono HX.out.2.size))); clear hb2) | ((with_reducible refine gate_store (t := 197) (p := 2) rfl ?_); refine put9 rfl rfl rfl g2 197 (zb false) (decide (a < 0)) (dn a.natAbs) rfl rfl HY.out.1 (by kernel_rfl) rfl HY.out.2 HL.out ?_; intro wy hz hfar hbz; have HZwy := Aside0.mk hz; have HFwy := Aside0.mk hfar; have HBwy := Aside0.mk hbz; clear hz hfar hbz))
  refine bodyPost_ret (results_single rfl (.cell g2 197 (big a) (0, 0) _ rfl HZwy.out Tryd.underlying197 rfl (by kernel_rfl) .nil)) rfl ?_
  exact ⟨rfl, HBwy.out⟩
set_option maxHeartbeats 2000000 in
set_option maxRecDepth 100000 in
theorem mul_false_false (x y : Nat) (hx : x < P 4) (hy : y < P 4) (w : World) : Calls Tryd.prog 128 #[.agg (bg false (dn x)), .agg (bg false (dn y))] w fun e w' => e = .returned (.agg (bg (false && !(x * y == 0)) (dn (x * y)))) ∧ Below w.heap.size w w' := by
  obtain ⟨w1, hw1⟩ : ∃ w1, w1 = (((w.alloc (.cells (bg false (dn x)) 197)).alloc (.cells (bg false (dn y)) 197)).alloc (.cells (zb false) 197)) := ⟨_, rfl⟩
  have k2 : w1.heap[w.heap.size]? = some (.cells (bg false (dn x)) 197 (0, 0)) := by rw [hw1]; exact blk_alloc (blk_alloc (heap_alloc_new w _) _) _
  have k3 : w1.heap[w.heap.size + 1]? = some (.cells (bg false (dn y)) 197 (0, 0)) := by rw [hw1]; exact blk_alloc (new1 w _ _) _
  have k4 : w1.heap[w.heap.size + 1 + 1]? = some (.cells (zb false) 197 (0, 0)) := by rw [hw1]; exact new2 w _ _ _
  have hb1 : Below w.heap.size w w1 := by rw [hw1]; exact (((Below.refl _ w).alloc (Nat.le_refl _) _).alloc (by simp) _).alloc (by simp; omega) _
  have hn1 : w1.heap.size = w.heap.size + 1 + 1 + 1 := by rw [hw1]; simp
  obtain ⟨g2, hg2⟩ : ∃ g, g = w.heap.size := ⟨_, rfl⟩
  obtain ⟨g3, hg3⟩ : ∃ g, g = w.heap.size + 1 := ⟨_, rfl⟩
  obtain ⟨g4, hg4⟩ : ∃ g, g = w.heap.size + 1 + 1 := ⟨_, rfl⟩
  obtain ⟨g5, hg5⟩ : ∃ g, g = w1.heap.size := ⟨_, rfl⟩
  rw [← hg2] at k2
  rw [← hg3] at k3
  rw [← hg4] at k4
  have HX := Aside0.mk (And.intro k2 (And.intro k3 (And.intro k4 hb1)))
  have HL4 := Lib.hid (show w.heap.size ≤ g4 by omega)
  have HL5 := Lib.hid (show w.heap.size ≤ g5 by omega)
  have HD := Lib.hid (show g2 ≠ g5 ∧ g3 ≠ g5 ∧ g4 ≠ g5 by omega)
  have HW := Lib.hid hw1
  have H2 := Lib.hid hg2
  have H3 := Lib.hid hg3
  have H4 := Lib.hid hg4
  have H5 := Lib.hid hg5
  have HXY := Lib.hid (And.intro hx hy)
  clear hw1 hg2 hg3 hg4 hg5 k2 k3 k4 hb1 hn1 hx hy
  go_enter Tryd.func128, Tryd.ntmps128
  go_upto_region 1 with (fail)
  rw [← HW.out, ← H4.out, ← H3.out, ← H2.out]
  go_wp2_with (((with_reducible refine gate_store (t := 197) (p := 5) rfl ?_); refine put9z rfl rfl rfl w1.heap.size 197 (zb false) (false) rfl rfl (heap_alloc_new w1 _) (by kernel_rfl) rfl (HX.out.2.2.2.alloc HX.out.2.2.2.size _) HX.out.2.2.2.size ?_; intro wz hz hfar hbz; rw [← H5.out] at hz hfar; have HZwz := Aside0.mk hz; have HFwz := Aside0.mk hfar; have HBwz := Aside0.mk hbz; clear hz hfar hbz))
  rw [← H5.out]
  have HK : Aside0 (wz.heap[g5]? = some (.cells (bg false (dn 0)) 197 (0, 0)) ∧ wz.heap[g2]? = some (.cells (bg false (dn x)) 197 (0, 0)) ∧ wz.heap[g3]? = some (.cells (bg false (dn y)) 197 (0, 0)) ∧ wz.heap[g4]? = some (.cells (zb false) 197 (0, 0)) ∧ Below w.heap.size w wz) := ⟨HZwz.out, (HFwz.out g2 HD.out.1).trans (blk_alloc HX.out.1 _), (HFwz.out g3 HD.out.2.1).trans (blk_alloc HX.out.2.1 _), (HFwz.out g4 HD.out.2.2).trans (blk_alloc HX.out.2.2.1 _), HBwz.out⟩
  clear HZwz HBwz HFwz HX
  go_loopw [6] (fun v6 wr => ∃ (i : Nat), Aside0 (i ≤ 4 ∧ wr.heap[g5]? = some (.cells (bg false (dn (x % P i * y))) 197 (0, 0)) ∧ wr.heap[g2]? = some (.cells (bg false (dn x)) 197 (0, 0)) ∧ wr.heap[g3]? = some (.cells (bg false (dn y)) 197 (0, 0)) ∧ wr.heap[g4]? = some (.cells (zb false) 197 (0, 0)) ∧ Below w.heap.size w wr) ∧ v6 = .int .i64 i) (fun v6 _ => (4 - intOf v6).toNat)
  case atStart => exact ⟨0, ⟨by omega, by rw [P_zero, Nat.mod_one, Nat.zero_mul]; exact HK.out⟩, rfl⟩
  case round =>
    obtain ⟨i, HI, rfl⟩ := hrel
    clear HK
    by_cases hi : i < 4
    · have hlt : (i : Int) < 4 := by omega
      have h0 : (0 : Int) ≤ i := by omega
      obtain ⟨M, hM⟩ : ∃ M, M = x % P i * y := ⟨_, rfl⟩
      obtain ⟨z, hz⟩ : ∃ z : Nat, z = dn x i := ⟨_, rfl⟩
      obtain ⟨R, hR⟩ : ∃ R, R = M + P i * z * y := ⟨_, rfl⟩
      have hIo := HI.out.2
      rw [← hM] at hIo
      have HK := Aside0.mk hIo
      have hz1 : z < 4294967296 := by rw [hz]; exact dn_lt x i
      have HM := Lib.hid (And.intro hM (And.intro hz (And.intro hR hz1)))
      clear hM hz hR hIo HI hz1
      go_wp2_with (fail)
      go_loopw [7, 8] (fun v7 v8 wr => ∃ (k : Nat) (c : Int), Aside0 (k ≤ 4 ∧ c = (mc M z y i k : Nat) ∧ wr.heap[g5]? = some (.cells (bg false (fun j => if j < i + k then dn R j else dn M j)) 197 (0, 0)) ∧ wr.heap[g2]? = some (.cells (bg false (dn x)) 197 (0, 0)) ∧ wr.heap[g3]? = some (.cells (bg false (dn y)) 197 (0, 0)) ∧ wr.heap[g4]? = some (.cells (zb false) 197 (0, 0)) ∧ Below w.heap.size w wr) ∧ v7 = .int .u64 c ∧ v8 = .int .i64 k) (fun _ v8 _ => (4 - intOf v8).toNat)
      case atStart => exact ⟨0, 0, ⟨by omega, by rw [mc_zero]; rfl, by
          rw [HK.out.1, bg_congr (g := fun j => if j < i + 0 then dn R j else dn M j) (fun j hj => by
            have := HM.out.2.2.1
            simp only [Nat.add_zero]
            split
            · rw [this]; apply dn_of_mod; rw [show P i * z * y = P (j + 1) * (P (i - (j + 1)) * z * y) by rw [← Nat.mul_assoc, ← Nat.mul_assoc, ← P_add, show j + 1 + (i - (j + 1)) = i by omega], Nat.add_mul_mod_self_left]
            · rfl)], HK.out.2⟩, rfl, rfl⟩
      case round =>
        obtain ⟨k, c, HY, rfl, rfl⟩ := hrel
        clear HK
        by_cases hk : k < 4
        · have hkt : (k : Int) < 4 := by omega
          have hk0 : (0 : Int) ≤ k := by omega
          obtain ⟨zz, hzz⟩ : ∃ a : Int, a = (z : Nat) := ⟨_, rfl⟩
          obtain ⟨yy, hyy⟩ : ∃ a : Int, a = (dn y k : Nat) := ⟨_, rfl⟩
          obtain ⟨ee, hee⟩ : ∃ a : Int, a = (dn M (i + k) : Nat) := ⟨_, rfl⟩
          obtain ⟨pr, hpr⟩ : ∃ a : Int, a = zz * yy := ⟨_, rfl⟩
          have cx : wr.cell? ⟨g2, 1 + i, none⟩ = some (.int .u64 zz) := by rw [blk_cell HY.out.2.2.2.1 (1 + i), bg_get _ _ (by omega), hzz, HM.out.2.1]
          have cy : wr.cell? ⟨g3, 1 + k, none⟩ = some (.int .u64 yy) := by rw [blk_cell HY.out.2.2.2.2.1 (1 + k), bg_get _ _ (by omega), hyy]
          have cm : wr.cell? ⟨g5, 1 + (i + k), none⟩ = some (.int .u64 ee) := by rw [blk_cell HY.out.2.2.1 (1 + (i + k)), bg_get _ _ (by omega), hee]; simp
          have fx := blk_frozen HY.out.2.2.2.1 (1 + i)
          have fy := blk_frozen HY.out.2.2.2.2.1 (1 + k)
          have fm := blk_frozen HY.out.2.2.1 (1 + (i + k))
          have z1 := HM.out.2.2.2
          have y1 := dn_lt y k
          have e1 := dn_lt M (i + k)
          have c1 := mc_lt M z y i k z1
          have hprn : pr = ((z * dn y k : Nat) : Int) := by rw [hpr, hzz, hyy, Int.natCast_mul]
          have hmb : z * dn y k ≤ 4294967295 * 4294967295 := Nat.mul_le_mul (by omega) (by omega)
          have p0 : 0 ≤ pr := by omega
          have p1 : pr ≤ 18446744065119617025 := by omega
          have hwp : IntKind.u64.wrap (zz * yy) = pr := by rw [← hpr, IntKind.wrap_u64]; omega
          have e0 : 0 ≤ ee := by omega
          have e2 : ee ≤ 4294967295 := by omega
          have c0 : 0 ≤ c := by have := HY.out.2.1; omega
          have c2 : c ≤ 4294967295 := by have := HY.out.2.1; omega
          have hik : (i : Int) + k < 8 := by omega
          have HV := Lib.hid (And.intro hprn (And.intro hee hyy))
          clear hzz hyy hee hpr hprn hmb z1 y1 e1 c1
          go_wp2
          go_region
          go_wp2
          go_roundw
          case rel =>
            have hV := HV.out
            have hc := HY.out.2.1
            have s1 := mc_succ M z y i k
            have s2 := mul_digit M z y i k
            rw [← HM.out.2.2.1] at s2
            have v2 : (pr + ee + c) % 4294967296 = ((dn R (i + k) : Nat) : Int) := by omega
            refine ⟨k + 1, _, ⟨by omega, by omega, ?e2, ?e3, ?e4, ?e5, ?e6⟩, rfl, by go_num⟩
            case e2 => rw [v2]; exact blk_put HY.out.2.2.1 (1 + (i + k)) _ (bg_set _ _ _ (by omega) (by simp [show i + k < i + (k + 1) by omega]) (fun j hj => by show (if j < i + (k + 1) then dn R j else dn M j) = (if j < i + k then dn R j else dn M j); simp only [show (j < i + (k + 1)) = (j < i + k) from propext (by omega)]))
            case e3 => exact (Below.heap_setCell wr ⟨g5, 1 + (i + k), none⟩ _ g2 HD.out.1).trans HY.out.2.2.2.1
            case e4 => exact (Below.heap_setCell wr ⟨g5, 1 + (i + k), none⟩ _ g3 HD.out.2.1).trans HY.out.2.2.2.2.1
            case e5 => exact (Below.heap_setCell wr ⟨g5, 1 + (i + k), none⟩ _ g4 HD.out.2.2).trans HY.out.2.2.2.2.2.1
            case e6 => exact (HY.out.2.2.2.2.2.2.setCell HL5.out _).drew
          case measure => simp [intOf]; omega
        · obtain rfl : k = 4 := by have := HY.out.1; omega
          have cm : wr.cell? ⟨g5, 1 + (i + 4), none⟩ = some (.int .u64 ((dn M (i + 4) : Nat) : Int)) := by rw [blk_cell HY.out.2.2.1 (1 + (i + 4)), bg_get _ _ (by omega)]; simp
          have fm := blk_frozen HY.out.2.2.1 (1 + (i + 4))
          have hik : (i : Int) + 4 < 8 := by omega
          go_wp2
          go_roundw
          case rel =>
            have hc := HY.out.2.1
            have hMx : M < P (i + 4) := by
              rw [HM.out.1, P_add]
              exact Nat.mul_lt_mul_of_lt_of_le (Nat.mod_lt _ (P_pos i)) (Nat.le_of_lt HXY.out.2) (P_pos 4)
            have hRx : R < P (i + 4 + 1) := by
              rw [HM.out.2.2.1, HM.out.1]
              exact mul_bound _ y i 4 HXY.out.2 z (Nat.mod_lt _ (P_pos i)) HM.out.2.2.2
            have hl := mul_last M z y i 4 hMx HXY.out.2
            rw [← HM.out.2.2.1, ← dn_eq_div hRx] at hl
            have v2 : c = ((dn R (i + 4) : Nat) : Int) := by rw [hc, hl]
            have hRR : x % P (i + 1) * y = R := by
              rw [mod_succ, Nat.add_mul, HM.out.2.2.1, HM.out.1, HM.out.2.1]
            refine ⟨i + 1, ⟨by omega, ?e2, ?e3, ?e4, ?e5, ?e6⟩, by go_num⟩
            case e2 =>
              rw [v2, hRR, blk_put HY.out.2.2.1 (1 + (i + 4)) _ (bg_set _ _ (fun j => if j = i + 4 then dn R (i + 4) else if j < i + 4 then dn R j else dn M j) (by omega) (by simp) (fun j hj => by simp [hj]))]
              rw [bg_congr (g := dn R) (fun j hj => ?_)]
              show (if j = i + 4 then dn R (i + 4) else if j < i + 4 then dn R j else dn M j) = dn R j
              by_cases h1 : j = i + 4
              · rw [if_pos h1, h1]
              · rw [if_neg h1]
                by_cases h2 : j < i + 4
                · rw [if_pos h2]
                · rw [if_neg h2, dn_zero_of_lt (Nat.lt_of_lt_of_le hMx (P_mono (by omega))), dn_zero_of_lt (Nat.lt_of_lt_of_le hRx (P_mono (by omega)))]
            case e3 => exact (Below.heap_setCell wr ⟨g5, 1 + (i + 4), none⟩ _ g2 HD.out.1).trans HY.out.2.2.2.1
            case e4 => exact (Below.heap_setCell wr ⟨g5, 1 + (i + 4), none⟩ _ g3 HD.out.2.1).trans HY.out.2.2.2.2.1
            case e5 => exact (Below.heap_setCell wr ⟨g5, 1 + (i + 4), none⟩ _ g4 HD.out.2.2).trans HY.out.2.2.2.2.2.1
            case e6 => exact HY.out.2.2.2.2.2.2.setCell HL5.out _
          case measure => simp [intOf]; omega
    · obtain rfl : i = 4 := by have := HI.out.1; omega
      have hIo := HI.out.2
      rw [Nat.mod_eq_of_lt HXY.out.1] at hIo
      obtain ⟨m, hm⟩ : ∃ m, m = x * y := ⟨_, rfl⟩
      rw [← hm] at hIo
      have HT := Aside0.mk hIo
      have hmb : m < P 8 := by
        rw [hm, show P 8 = P 4 * P 4 from (P_add 4 4)]
        exact Nat.mul_lt_mul_of_lt_of_le HXY.out.1 (Nat.le_of_lt HXY.out.2) (P_pos 4)
      obtain ⟨z, hz⟩ : ∃ z, z = (m == 0) := ⟨_, rfl⟩
      have hZ : ∀ W, Calls Tryd.prog 132 #[.agg (c8 (dn m))] W fun e w' => e = .returned (.bool z) ∧ Below W.heap.size W w' := fun W => by
        rw [hz]; exact zero_calls m hmb W
      have HZM := Lib.hid (show z = (x * y == 0) ∧ m = x * y from ⟨by rw [hz, hm], hm⟩)
      clear hIo HI hm hmb hz hi
      have c2 := (blk_cell HT.out.2.1 0).trans (bg_neg _ _)
      have c3 := (blk_cell HT.out.2.2.1 0).trans (bg_neg _ _)
      have c5 := (blk_cell HT.out.1 0).trans (bg_neg _ _)
      have f2 := blk_frozen HT.out.2.1 0
      have f3 := blk_frozen HT.out.2.2.1 0
      have f5 := blk_frozen HT.out.1 0
      go_upto_region 14 with (fail)
      have HV := Aside0.mk (And.intro HT.out.1 (And.intro HT.out.2.2.2.1 HT.out.2.2.2.2))
      refine name_w (fun W8 hW8 => ?_)
      have h8 : W8.heap[g5]? = some (.cells (bg (false) (dn m)) 197 (0, 0)) := by rw [hW8]; exact blk_put HV.out.1 0 _ (bg_setneg _ _ _)
      have h8r : W8.heap[g4]? = some (.cells (zb false) 197 (0, 0)) := by rw [hW8]; exact (Below.heap_setCell _ ⟨g5, 0, none⟩ _ g4 HD.out.2.2).trans HV.out.2.1
      have h8b : Below w.heap.size w W8 := by rw [hW8]; exact HV.out.2.2.setCell HL5.out _
      have H8 := Aside0.mk (And.intro h8 (And.intro h8r h8b))
      clear hW8 h8 h8r h8b hZ
      go_wp2_with (first | ((with_reducible refine gate_dst (N := 63) rfl ?_); refine get9 rfl rfl g5 197 (false) (dn m) _ rfl H8.out.1 Tryd.underlying197 rfl (by kernel_rfl) ?_) | ((with_reducible refine gate_store (t := 197) (p := 4) rfl ?_); refine put9 rfl rfl rfl g4 197 (zb false) (false) (dn m) rfl rfl H8.out.2.1 (by kernel_rfl) rfl H8.out.2.2 HL4.out ?_; intro wy hz hfar hbz; have HZwy := Aside0.mk hz; have HFwy := Aside0.mk hfar; have HBwy := Aside0.mk hbz; clear hz hfar hbz))
      refine bodyPost_ret (results_single rfl (.cell g4 197 (bg (false) (dn m)) (0, 0) _ rfl HZwy.out Tryd.underlying197 rfl (by kernel_rfl) .nil)) rfl ?_
      exact ⟨by rw [HZM.out.2]; simp [HZM.out.1], HBwy.out⟩
section
variable {ops : Array Oper} {rest : List Oper} {o : Oper} {a : Act} {w : World} {Q : Exit → Act → World → Prop}
theorem build8_event (hgd : o.guard = none) {y : Operand} (ho : o.op = .build 197 #[(1, y)]) (f : Nat → Nat) (hy : a.eval y = .agg (c8 f)) (h : wpList Tryd.prog ops Q rest (a.put o.dst (.agg (bg false f))) w) : wpList Tryd.prog ops Q (o :: rest) a w := by
  refine wpList_plain hgd fun K hK => ?_
  unfold Oper.wp
  rw [build8 ho f hy]
  exact hK _ _ h
end
theorem twice0 (a : Nat) (w : World) : Calls Tryd.prog 149 #[.agg (c8 (dn a)), .int .u64 0] w fun e w' => e = .returned (.agg (c8 (dn (2 * a)))) ∧ Below w.heap.size w w' := by
  have h := twice_calls a 0 (Nat.zero_le 1) w
  rw [show a + a + 0 = 2 * a by omega] at h
  exact h
set_option maxHeartbeats 2000000 in
set_option maxRecDepth 100000 in
theorem power_calls (n : Nat) (hn : n ≤ 200) (w : World) : Calls Tryd.prog 130 #[.int .i64 n] w fun e w' => e = .returned (.agg (bg false (dn (2 ^ n)))) ∧ Below w.heap.size w w' := by
  obtain ⟨w1, hw1⟩ : ∃ w1, w1 = w.alloc (.cells (zb false) 197) := ⟨_, rfl⟩
  have k1 : w1.heap[w.heap.size]? = some (.cells (zb false) 197 (0, 0)) := by rw [hw1]; exact heap_alloc_new w _
  have hb1 : Below w.heap.size w w1 := by rw [hw1]; exact (Below.refl _ w).alloc (Nat.le_refl _) _
  obtain ⟨g2, hg2⟩ : ∃ g, g = w.heap.size := ⟨_, rfl⟩
  rw [← hg2] at k1
  have HX := Aside0.mk (And.intro k1 hb1)
  have HL2 := Lib.hid (show w.heap.size ≤ g2 by omega)
  have HW := Lib.hid hw1
  have H2 := Lib.hid hg2
  have HN := Lib.hid hn
  clear hw1 k1 hb1 hg2 hn
  go_enter Tryd.func130, Tryd.ntmps130
  go_upto_region 1 with (fail)
  rw [← HW.out, ← H2.out]
  go_wp2_with (first | (go_at_call 154; (with_reducible refine (one_calls _).mono ?_); rintro e w2 ⟨rfl, hb2⟩; have HY := Aside0.mk (And.intro (blk_below HX.out.1 hb2) (HX.out.2.trans (hb2.mono HX.out.2.size))); clear hb2; obtain ⟨g3, hg3⟩ : ∃ g, g = w2.heap.size := ⟨_, rfl⟩; have H3 := Lib.hid hg3; clear hg3) | ((with_reducible refine gate_dst (N := 6) rfl ?_); refine build8_event rfl rfl (dn 1) rfl ?_) | ((with_reducible refine gate_store (t := 197) (p := 3) rfl ?_); refine put9 rfl rfl rfl w2.heap.size 197 (zb false) (false) (dn 1) rfl rfl (heap_alloc_new w2 _) (by kernel_rfl) rfl (HY.out.2.alloc HY.out.2.size _) HY.out.2.size ?_; intro wz hz hfar hbz; rw [← H3.out] at hz hfar; have HZwz := Aside0.mk hz; have HFwz := Aside0.mk hfar; have HBwz := Aside0.mk hbz; clear hz hfar hbz))
  rw [← H3.out]
  have hg23 : g2 ≠ g3 := by have := (Array.getElem?_eq_some_iff.1 HY.out.1).1; have := H3.out; omega
  have HK : Aside0 (wz.heap[g3]? = some (.cells (bg false (dn (2 ^ 0))) 197 (0, 0)) ∧ wz.heap[g2]? = some (.cells (zb false) 197 (0, 0)) ∧ Below w.heap.size w wz) := ⟨HZwz.out, (HFwz.out g2 hg23).trans (blk_alloc HY.out.1 _), HBwz.out⟩
  have HD := Lib.hid hg23
  have HL3 := Lib.hid (show w.heap.size ≤ g3 by have := H3.out; have := HY.out.2.size; omega)
  clear hg23 HZwz HFwz HBwz HX HY
  go_loopw [4] (fun v4 wr => ∃ (i : Nat), Aside0 (i ≤ n ∧ wr.heap[g3]? = some (.cells (bg false (dn (2 ^ i))) 197 (0, 0)) ∧ wr.heap[g2]? = some (.cells (zb false) 197 (0, 0)) ∧ Below w.heap.size w wr) ∧ v4 = .int .i64 i) (fun v4 _ => (n - intOf v4).toNat)
  case atStart => exact ⟨0, ⟨Nat.zero_le _, HK.out⟩, rfl⟩
  case round =>
    obtain ⟨i, HI, rfl⟩ := hrel
    clear HK
    have hn2 : (n : Int) ≤ 200 := by have := HN.out; omega
    by_cases hi : i < n
    · have hlt : (i : Int) < n := by omega
      have h0 : (0 : Int) ≤ i := by omega
      go_wp2_with (first | ((with_reducible refine gate_dst (N := 13) rfl ?_); refine get81 rfl rfl g3 197 (false) (dn (2 ^ i)) _ rfl HI.out.2.1 Tryd.underlying195 rfl (by kernel_rfl) ?_) | (go_at_call 149; (with_reducible refine (twice0 (2 ^ i) _).mono ?_); rintro e w5 ⟨rfl, hb5⟩; have HU := Aside0.mk (And.intro (blk_below HI.out.2.1 hb5) (And.intro (blk_below HI.out.2.2.1 hb5) (HI.out.2.2.2.trans (hb5.mono HI.out.2.2.2.size)))); clear hb5) | ((with_reducible refine gate_store (t := 195) (p := 15) rfl ?_); refine put81 rfl rfl rfl g3 197 (false) (dn (2 ^ i)) (dn (2 * 2 ^ i)) rfl rfl HU.out.1 (by kernel_rfl) HU.out.2.2 HL3.out ?_; intro wt hz hfar hbz; have HZwt := Aside0.mk hz; have HFwt := Aside0.mk hfar; have HBwt := Aside0.mk hbz; clear hz hfar hbz))
      go_roundw
      case rel =>
        refine ⟨i + 1, ⟨by omega, ?_, (HFwt.out g2 HD.out).trans HU.out.2.1, HBwt.out⟩, by go_num⟩
        rw [Nat.pow_succ, Nat.mul_comm]; exact HZwt.out
      case measure => simp [intOf]; omega
    · obtain rfl : i = n := by have := HI.out.1; omega
      have HT := Aside0.mk HI.out.2
      clear HI hi
      have hge : ¬ (i : Int) < i := by omega
      go_wp2_with (first | ((with_reducible refine gate_dst (N := 16) rfl ?_); refine get9 rfl rfl g3 197 (false) (dn (2 ^ i)) _ rfl HT.out.1 Tryd.underlying197 rfl (by kernel_rfl) ?_) | ((with_reducible refine gate_store (t := 197) (p := 2) rfl ?_); refine put9 rfl rfl rfl g2 197 (zb false) (false) (dn (2 ^ i)) rfl rfl HT.out.2.1 (by kernel_rfl) rfl HT.out.2.2 HL2.out ?_; intro wy hz hfar hbz; have HZwy := Aside0.mk hz; have HFwy := Aside0.mk hfar; have HBwy := Aside0.mk hbz; clear hz hfar hbz))
      refine bodyPost_ret (results_single rfl (.cell g2 197 (bg false (dn (2 ^ i))) (0, 0) _ rfl HZwy.out Tryd.underlying197 rfl (by kernel_rfl) .nil)) rfl ?_
      exact ⟨rfl, HBwy.out⟩
set_option maxHeartbeats 2000000 in
set_option maxRecDepth 100000 in
theorem to_false_ok (m : Nat) (hm : m < 170141183460469231731687303715884105728) (w : World) : Calls Tryd.prog 155 #[.agg (bg false (dn m))] w fun e w' => e = .returned (.tuple #[.agg #[.int .i64 ((m / 18446744073709551616 : Nat) : Int), .int .u64 ((m % 18446744073709551616 : Nat) : Int)], .bool true]) ∧ Below w.heap.size w w' := by
  obtain ⟨w1, hw1⟩ : ∃ w1, w1 = ((w.alloc (.cells (bg false (dn m)) 197)).alloc (.cells #[.int .i64 0, .int .u64 0] 243)) := ⟨_, rfl⟩
  have k1 : w1.heap[w.heap.size]? = some (.cells (bg false (dn m)) 197 (0, 0)) := by rw [hw1]; exact blk_alloc (heap_alloc_new w _) _
  have k2 : w1.heap[w.heap.size + 1]? = some (.cells #[.int .i64 0, .int .u64 0] 243 (0, 0)) := by rw [hw1]; exact new1 w _ _
  have hb1 : Below w.heap.size w w1 := by rw [hw1]; exact ((Below.refl _ w).alloc (Nat.le_refl _) _).alloc (by simp) _
  have hn1 : w1.heap.size = w.heap.size + 1 + 1 := by rw [hw1]; simp
  obtain ⟨g1, hg1⟩ : ∃ g, g = w.heap.size := ⟨_, rfl⟩
  obtain ⟨g2, hg2⟩ : ∃ g, g = w.heap.size + 1 := ⟨_, rfl⟩
  obtain ⟨g4, hg4⟩ : ∃ g, g = w1.heap.size := ⟨_, rfl⟩
  rw [← hg1] at k1
  rw [← hg2] at k2
  have HX := Aside0.mk (And.intro k1 (And.intro k2 hb1))
  have HL2 := Lib.hid (show w.heap.size ≤ g2 by omega)
  have HL4 := Lib.hid (show w.heap.size ≤ g4 by omega)
  have HD := Lib.hid (show g1 ≠ g4 ∧ g2 ≠ g4 ∧ g1 ≠ g2 by omega)
  have HW := Lib.hid hw1
  have H1 := Lib.hid hg1
  have H2 := Lib.hid hg2
  have H4 := Lib.hid hg4
  have HMM := Lib.hid hm
  clear hw1 hg1 hg2 hg4 k1 k2 hb1 hn1 hm
  obtain ⟨H, hH⟩ : ∃ H : Int, H = ((m / 18446744073709551616 : Nat) : Int) := ⟨_, rfl⟩
  obtain ⟨L, hL⟩ : ∃ L : Int, L = ((m % 18446744073709551616 : Nat) : Int) := ⟨_, rfl⟩
  rw [← hH, ← hL]
  have HHL := Lib.hid (And.intro hH hL)
  clear hH hL
  go_enter Tryd.func155, Tryd.ntmps155
  go_upto_region 1 with (fail)
  rw [← HW.out, ← H2.out, ← H1.out]
  go_upto_region 2 with (first | ((with_reducible refine gate_dst (N := 8) rfl ?_); refine get81 rfl rfl g1 197 (false) (dn m) _ rfl HX.out.1 Tryd.underlying195 rfl (by kernel_rfl) ?_) | ((with_reducible refine gate_store (t := 195) (p := 4) rfl ?_); refine put8 rfl rfl rfl w1.heap.size 195 z8 (dn m) rfl rfl (heap_alloc_new w1 _) (by kernel_rfl) rfl (HX.out.2.2.alloc HX.out.2.2.size _) HX.out.2.2.size ?_; intro wz hz hfar hbz; rw [← H4.out] at hz hfar; have HZwz := Aside0.mk hz; have HFwz := Aside0.mk hfar; have HBwz := Aside0.mk hbz; clear hz hfar hbz))
  rw [← H4.out]
  have HK : Aside0 (wz.heap[g4]? = some (.cells (c8 (dn m)) 195 (0, 0)) ∧ wz.heap[g1]? = some (.cells (bg false (dn m)) 197 (0, 0)) ∧ wz.heap[g2]? = some (.cells #[.int .i64 0, .int .u64 0] 243 (0, 0)) ∧ Below w.heap.size w wz) := ⟨HZwz.out, (HFwz.out g1 HD.out.1).trans (blk_alloc HX.out.1 _), (HFwz.out g2 HD.out.2.1).trans (blk_alloc HX.out.2.1 _), HBwz.out⟩
  clear HZwz HBwz HFwz HX
  have c1 := (blk_cell HK.out.2.1 0).trans (bg_neg _ _)
  have f1 := blk_frozen HK.out.2.1 0
  go_upto_region 4 with (fail)
  clear c1 f1
  have HT := HK
  obtain ⟨d3, hd3⟩ : ∃ d : Int, d = (dn m 3 : Nat) := ⟨_, rfl⟩
  have c3 : wz.cell? ⟨g4, 3, none⟩ = some (.int .u64 d3) := by rw [blk_cell HT.out.1 3, c8_get _ (by omega), hd3]
  have f3 := blk_frozen HT.out.1 3
  have HD3 := Lib.hid hd3
  have hd30 : d3 < 2147483648 := by
    rw [hd3]
    have hq := HMM.out
    have hqq : dn m 3 = m / P 3 % 4294967296 := rfl
    have e3 : P 3 = 79228162514264337593543950336 := by decide
    rw [e3] at hqq
    omega
  clear hd3
  have hd3d := decide_eq_false (show ¬ (2147483648 ≤ d3) by omega)
  go_wp2_with (fail)
  go_loopw [5] (fun v5 wr => ∃ (i : Nat), Aside0 (4 ≤ i ∧ i ≤ 8 ∧ (∀ j, 4 ≤ j → j < i → dn m j = 0) ∧ wr.heap[g4]? = some (.cells (c8 (dn m)) 195 (0, 0)) ∧ wr.heap[g1]? = some (.cells (bg false (dn m)) 197 (0, 0)) ∧ wr.heap[g2]? = some (.cells #[.int .i64 0, .int .u64 0] 243 (0, 0)) ∧ Below w.heap.size w wr) ∧ v5 = .int .i64 i) (fun v5 _ => (8 - intOf v5).toNat)
  case atStart => exact ⟨4, ⟨by omega, by omega, fun j h1 h2 => by omega, HT.out⟩, rfl⟩
  case round =>
    obtain ⟨i, HI, rfl⟩ := hrel
    clear HT c3 f3
    have h0 : (0 : Int) ≤ i := by omega
    by_cases hi : i < 8
    · have hlt : (i : Int) < 8 := by omega
      obtain ⟨x, hx⟩ : ∃ x : Int, x = (dn m i : Nat) := ⟨_, rfl⟩
      have cx : wr.cell? ⟨g4, i, none⟩ = some (.int .u64 x) := by rw [blk_cell HI.out.2.2.2.1 i, c8_get _ hi, hx]
      have fx := blk_frozen HI.out.2.2.2.1 i
      have hx0 : x = 0 := by
        have hq := HMM.out
        have e4 : P 4 = 340282366920938463463374607431768211456 := by decide
        have := P_mono HI.out.1
        have := dn_zero_of_lt (n := m) (i := i) (by omega)
        omega
      have HXX := Lib.hid (show (dn m i : Int) = 0 by omega)
      clear hx
      subst hx0
      go_wp2
      go_roundw
      case rel => exact ⟨i + 1, ⟨by have := HI.out.1; omega, by omega, fun j h1 h2 => by
          by_cases hj : j < i
          · exact HI.out.2.2.1 j h1 hj
          · rw [show j = i by omega]; have := HXX.out; omega, HI.out.2.2.2⟩, by go_num⟩
      case measure => simp [intOf]; omega
    · obtain rfl : i = 8 := by have := HI.out.2.1; omega
      obtain ⟨d0, hd0⟩ : ∃ d : Int, d = (dn m 0 : Nat) := ⟨_, rfl⟩
      obtain ⟨d1, hd1⟩ : ∃ d : Int, d = (dn m 1 : Nat) := ⟨_, rfl⟩
      obtain ⟨d2, hd2⟩ : ∃ d : Int, d = (dn m 2 : Nat) := ⟨_, rfl⟩
      have HI4 := Aside0.mk HI.out.2.2.2
      have c0 : wr.cell? ⟨g4, 0, none⟩ = some (.int .u64 d0) := by rw [blk_cell HI4.out.1 0, c8_get _ (by omega), hd0]
      have c1 : wr.cell? ⟨g4, 1, none⟩ = some (.int .u64 d1) := by rw [blk_cell HI4.out.1 1, c8_get _ (by omega), hd1]
      have c2 : wr.cell? ⟨g4, 2, none⟩ = some (.int .u64 d2) := by rw [blk_cell HI4.out.1 2, c8_get _ (by omega), hd2]
      have c3 : wr.cell? ⟨g4, 3, none⟩ = some (.int .u64 d3) := by rw [blk_cell HI4.out.1 3, c8_get _ (by omega), HD3.out]
      have f0 := blk_frozen HI4.out.1 0
      have f1 := blk_frozen HI4.out.1 1
      have f2 := blk_frozen HI4.out.1 2
      have f3 := blk_frozen HI4.out.1 3
      have b00 : 0 ≤ d0 := by omega
      have b01 : d0 ≤ 4294967295 := by have := dn_lt m 0; omega
      have b10 : 0 ≤ d1 := by omega
      have b11 : d1 ≤ 4294967295 := by have := dn_lt m 1; omega
      have b20 : 0 ≤ d2 := by omega
      have b21 : d2 ≤ 4294967295 := by have := dn_lt m 2; omega
      have b30 : 0 ≤ d3 := by have := HD3.out; omega
      have hHe : d3 * 4294967296 + d2 = H ∧ d1 * 4294967296 + d0 = L := by
        have h1 := HHL.out
        have h3 := HD3.out
        have hq := HMM.out
        have q0 : dn m 0 = m / 1 % 4294967296 := rfl
        have q1 : dn m 1 = m / 4294967296 % 4294967296 := rfl
        have q2 : dn m 2 = m / 18446744073709551616 % 4294967296 := rfl
        have q3 : dn m 3 = m / 79228162514264337593543950336 % 4294967296 := rfl
        constructor <;> omega
      have HE := Lib.hid hHe
      obtain ⟨g6, hg6⟩ : ∃ g, g = wr.heap.size := ⟨_, rfl⟩
      have hlt4 := (Array.getElem?_eq_some_iff.1 HI4.out.2.2.1).1
      have HD6 := Lib.hid (show g2 ≠ g6 by omega)
      have hle6 := HI4.out.2.2.2.size
      have HL6 := Lib.hid (show w.heap.size ≤ g6 by omega)
      have H6 := Lib.hid hg6
      have cn : wr.cell? ⟨g1, 0, none⟩ = some (.bool false) := (blk_cell HI4.out.2.1 0).trans (bg_neg _ _)
      have fn := blk_frozen HI4.out.2.1 0
      clear hd0 hd1 hd2 hHe hg6 hlt4 hle6 HI
      go_upto_region 12 with (fail)
      refine name_w (fun W6 hW6 => ?_)
      rw [← H6.out]
      have k6 : W6.heap[g6]? = some (.cells #[.int .i64 H, .int .u64 L] 243 (0, 0)) := by rw [hW6, H6.out, ← HE.out.1, ← HE.out.2]; exact heap_alloc_new wr _
      have k2 : W6.heap[g2]? = some (.cells #[.int .i64 0, .int .u64 0] 243 (0, 0)) := by rw [hW6]; exact blk_alloc HI4.out.2.2.1 _
      have k1 : W6.heap[g1]? = some (.cells (bg false (dn m)) 197 (0, 0)) := by rw [hW6]; exact blk_alloc HI4.out.2.1 _
      have hb6 : Below w.heap.size w W6 := by rw [hW6]; exact HI4.out.2.2.2.alloc HI4.out.2.2.2.size _
      have c60 : W6.cell? ⟨g6, 0, none⟩ = some (.int .i64 H) := (blk_cell k6 0).trans rfl
      have c61 : W6.cell? ⟨g6, 1, none⟩ = some (.int .u64 L) := (blk_cell k6 1).trans rfl
      have f60 := blk_frozen k6 0
      have f61 := blk_frozen k6 1
      have c20 : W6.cell? ⟨g2, 0, none⟩ = some (.int .i64 0) := (blk_cell k2 0).trans rfl
      have c21 : W6.cell? ⟨g2, 1, none⟩ = some (.int .u64 0) := (blk_cell k2 1).trans rfl
      have f20 := blk_frozen k2 0
      have f21 := blk_frozen k2 1
      have cn6 : W6.cell? ⟨g1, 0, none⟩ = some (.bool false) := (blk_cell k1 0).trans (bg_neg _ _)
      have fn6 := blk_frozen k1 0
      have hH0 : 0 ≤ H := by have := HHL.out; omega
      have hH1 : H ≤ 9223372036854775807 := by have := HHL.out; have := HMM.out; omega
      have hL0 : 0 ≤ L := by have := HHL.out; omega
      have hL1 : L ≤ 18446744073709551615 := by have := HHL.out; omega
      have HQ := Aside0.mk (And.intro k6 (And.intro k2 hb6))
      clear hW6 k6 k2 k1 hb6 c0 c1 c2 c3 f0 f1 f2 f3 cn fn
      go_wp2
      refine bodyPost_ret (results_ct rfl _ _ g2 243 #[.int .i64 H, .int .u64 L] (0, 0) _ rfl (blk_put (blk_put HQ.out.2.1 0 _ rfl) 1 _ rfl) Tryd.underlying243 rfl (by kernel_rfl)) rfl ?_
      exact ⟨rfl, (HQ.out.2.2.setCell HL2.out _).setCell HL2.out _⟩
set_option maxHeartbeats 2000000 in
set_option maxRecDepth 100000 in
theorem number_pos (b : Bool) (f : Nat → Nat) (L : Int) (l0 : 0 ≤ L) (l1 : L < 9223372036854775808) (hT : ∀ W, Calls Tryd.prog 155 #[.agg (bg b f)] W fun e w' => e = .returned (.tuple #[.agg #[.int .i64 0, .int .u64 L], .bool true]) ∧ Below W.heap.size W w') (w : World) : Calls Tryd.prog 131 #[.agg (bg b f)] w fun e w' => e = .returned (.tuple #[.int .i64 (L), .bool true]) ∧ Below w.heap.size w w' := by
  obtain ⟨w1, hw1⟩ : ∃ w1, w1 = w.alloc (.cells (bg b f) 197) := ⟨_, rfl⟩
  have k1 : w1.heap[w.heap.size]? = some (.cells (bg b f) 197 (0, 0)) := by rw [hw1]; exact heap_alloc_new w _
  have hb1 : Below w.heap.size w w1 := by rw [hw1]; exact (Below.refl _ w).alloc (Nat.le_refl _) _
  obtain ⟨g1, hg1⟩ : ∃ g, g = w.heap.size := ⟨_, rfl⟩
  rw [← hg1] at k1
  have HX := Aside0.mk (And.intro k1 hb1)
  have HW := Lib.hid hw1
  have H1 := Lib.hid hg1
  clear hw1 k1 hb1 hg1
  have e5 := decide_eq_false (show ¬ (9223372036854775808 ≤ L) by omega)
  go_enter Tryd.func131, Tryd.ntmps131
  go_upto_region 1 with (fail)
  rw [← HW.out, ← H1.out]
  go_wp2_with (first | ((with_reducible refine gate_dst (N := 7) rfl ?_); refine get9 rfl rfl g1 197 (b) (f) _ rfl HX.out.1 Tryd.underlying197 rfl (by kernel_rfl) ?_) | (go_at_call 155; (with_reducible refine (hT _).mono ?_); rintro e w2 ⟨rfl, hb2⟩; have HY := Aside0.mk (HX.out.2.trans (hb2.mono HX.out.2.size)); clear hb2))
  go_ret2
  exact ⟨rfl, HY.out.alloc HY.out.size _⟩
theorem bit_nat (y b : Nat) (hb : b < 32) : y % 4294967296 / 2 ^ b % 2 = y / 2 ^ b % 2 := by
  have h := Nat.div_add_mod y 4294967296
  have e : (4294967296 : Nat) = 2 ^ b * (2 * 2 ^ (31 - b)) := by
    rw [← Nat.pow_succ', ← Nat.pow_add, show b + (31 - b).succ = 32 by omega]
  have h2 : y = y % 4294967296 + 2 ^ b * (2 * 2 ^ (31 - b) * (y / 4294967296)) := by
    rw [← Nat.mul_assoc, ← e]; omega
  generalize y % 4294967296 = r at h2 ⊢
  generalize y / 4294967296 = q at h2
  rw [h2, Nat.add_mul_div_left _ _ (Nat.pow_pos (by decide)), Nat.mul_assoc 2]
  omega
theorem bit_eq (x i : Nat) : ((dn x (i / 32) : Int) / 2 ^ (i % 32)).tmod 2 = ((x / 2 ^ i % 2 : Nat) : Int) := by
  have e1 : ((dn x (i / 32) : Int) / 2 ^ (i % 32)) = ((dn x (i / 32) / 2 ^ (i % 32) : Nat) : Int) := by rw [Int.natCast_ediv]; congr 1
  rw [e1, Int.tmod_eq_emod_of_nonneg (Int.natCast_nonneg _)]
  have e2 : dn x (i / 32) / 2 ^ (i % 32) % 2 = x / 2 ^ i % 2 := by
    unfold dn
    rw [bit_nat _ _ (Nat.mod_lt _ (by decide)), Nat.div_div_eq_div_mul]
    congr 2
    unfold P
    rw [show (4294967296 : Nat) = 2 ^ 32 by decide, ← Nat.pow_mul, ← Nat.pow_add, Nat.div_add_mod]
  rw [← e2, Int.natCast_emod]; rfl
set_option maxHeartbeats 2000000 in
set_option maxRecDepth 100000 in
theorem div_false (x d : Nat) (hx : x < P 8) (hd0 : 0 < d) (hdd : d + d ≤ P 8) (w : World) : Calls Tryd.prog 127 #[.agg (bg false (dn x)), .agg (bg false (dn d))] w fun e w' => e = .returned (.tuple #[.agg (bg false (dn (x / d))), .agg (bg false (dn (x % d)))]) ∧ Below w.heap.size w w' := by
  obtain ⟨w1, hw1⟩ : ∃ w1, w1 = ((((w.alloc (.cells (bg false (dn x)) 197)).alloc (.cells (bg false (dn d)) 197)).alloc (.cells (zb false) 197)).alloc (.cells (zb false) 197)) := ⟨_, rfl⟩
  have k2 : w1.heap[w.heap.size]? = some (.cells (bg false (dn x)) 197 (0, 0)) := by rw [hw1]; exact blk_alloc (blk_alloc (blk_alloc (heap_alloc_new w _) _) _) _
  have k3 : w1.heap[w.heap.size + 1]? = some (.cells (bg false (dn d)) 197 (0, 0)) := by rw [hw1]; exact blk_alloc (blk_alloc (new1 w _ _) _) _
  have k4 : w1.heap[w.heap.size + 1 + 1]? = some (.cells (zb false) 197 (0, 0)) := by rw [hw1]; exact blk_alloc (new2 w _ _ _) _
  have k5 : w1.heap[w.heap.size + 1 + 1 + 1]? = some (.cells (zb false) 197 (0, 0)) := by
    rw [hw1]
    have := heap_alloc_new (((w.alloc (.cells (bg false (dn x)) 197)).alloc (.cells (bg false (dn d)) 197)).alloc (.cells (zb false) 197)) (.cells (zb false) 197)
    simpa using this
  have hb1 : Below w.heap.size w w1 := by rw [hw1]; exact ((((Below.refl _ w).alloc (Nat.le_refl _) _).alloc (by simp) _).alloc (by simp; omega) _).alloc (by simp; omega) _
  have hn1 : w1.heap.size = w.heap.size + 1 + 1 + 1 + 1 := by rw [hw1]; simp
  obtain ⟨g2, hg2⟩ : ∃ g, g = w.heap.size := ⟨_, rfl⟩
  obtain ⟨g3, hg3⟩ : ∃ g, g = w.heap.size + 1 := ⟨_, rfl⟩
  obtain ⟨g4, hg4⟩ : ∃ g, g = w.heap.size + 1 + 1 := ⟨_, rfl⟩
  obtain ⟨g5, hg5⟩ : ∃ g, g = w.heap.size + 1 + 1 + 1 := ⟨_, rfl⟩
  obtain ⟨g6, hg6⟩ : ∃ g, g = w1.heap.size := ⟨_, rfl⟩
  obtain ⟨g7, hg7⟩ : ∃ g, g = w1.heap.size + 1 := ⟨_, rfl⟩
  rw [← hg2] at k2
  rw [← hg3] at k3
  rw [← hg4] at k4
  rw [← hg5] at k5
  have HX := Aside0.mk (And.intro k2 (And.intro k3 (And.intro k4 (And.intro k5 hb1))))
  have HL4 := Lib.hid (show w.heap.size ≤ g4 by omega)
  have HL5 := Lib.hid (show w.heap.size ≤ g5 by omega)
  have HL6 := Lib.hid (show w.heap.size ≤ g6 by omega)
  have HL7 := Lib.hid (show w.heap.size ≤ g7 by omega)
  have HD6 := Lib.hid (show g2 ≠ g6 ∧ g3 ≠ g6 ∧ g4 ≠ g6 ∧ g5 ≠ g6 ∧ g7 ≠ g6 by omega)
  have HD7 := Lib.hid (show g2 ≠ g7 ∧ g3 ≠ g7 ∧ g4 ≠ g7 ∧ g5 ≠ g7 ∧ g6 ≠ g7 by omega)
  have HD5 := Lib.hid (show g4 ≠ g5 ∧ g5 ≠ g4 by omega)
  have HW := Lib.hid hw1
  have H2 := Lib.hid hg2
  have H3 := Lib.hid hg3
  have H4 := Lib.hid hg4
  have H5 := Lib.hid hg5
  have H6 := Lib.hid hg6
  have H7 := Lib.hid hg7
  have HP := Lib.hid (And.intro hx (And.intro hd0 hdd))
  clear hw1 hg2 hg3 hg4 hg5 hg6 hg7 k2 k3 k4 k5 hb1 hn1 hx hd0 hdd
  go_enter Tryd.func127, Tryd.ntmps127
  go_upto_region 1 with (fail)
  rw [← HW.out, ← H5.out, ← H4.out, ← H3.out, ← H2.out]
  go_wp2_with (first | ((with_reducible refine gate_store (t := 197) (p := 6) rfl ?_); refine put9z rfl rfl rfl w1.heap.size 197 (zb false) (false) rfl rfl (blk_alloc (heap_alloc_new w1 _) _) (by kernel_rfl) rfl ((HX.out.2.2.2.2.alloc HX.out.2.2.2.2.size _).alloc (by have := HX.out.2.2.2.2.size; simp; omega) _) HX.out.2.2.2.2.size ?_; intro wz hz hfar hbz; rw [← H6.out] at hz hfar; have HZwz := Aside0.mk hz; have HFwz := Aside0.mk hfar; have HBwz := Aside0.mk hbz; clear hz hfar hbz) | ((with_reducible refine gate_store (t := 197) (p := 7) rfl ?_); refine put9z rfl rfl rfl (w1.heap.size + 1) 197 (zb false) (false) rfl rfl ((HFwz.out (w1.heap.size + 1) (by have := H6.out; omega)).trans (new1 w1 _ _)) (by kernel_rfl) rfl HBwz.out (by have := HX.out.2.2.2.2.size; omega) ?_; intro wy hz hfar hbz; rw [← H7.out] at hz hfar; have HZwy := Aside0.mk hz; have HFwy := Aside0.mk hfar; have HBwy := Aside0.mk hbz; clear hz hfar hbz))
  rw [← H7.out, ← H6.out]
  have HK : Aside0 (wy.heap[g6]? = some (.cells (bg false (dn (0))) 197 (0, 0)) ∧ wy.heap[g7]? = some (.cells (bg false (dn (0))) 197 (0, 0)) ∧ wy.heap[g2]? = some (.cells (bg false (dn x)) 197 (0, 0)) ∧ wy.heap[g3]? = some (.cells (bg false (dn d)) 197 (0, 0)) ∧ wy.heap[g4]? = some (.cells (zb false) 197 (0, 0)) ∧ wy.heap[g5]? = some (.cells (zb false) 197 (0, 0)) ∧ Below w.heap.size w wy) := ⟨(HFwy.out g6 HD7.out.2.2.2.2).trans HZwz.out, HZwy.out, ((HFwy.out g2 HD7.out.1).trans ((HFwz.out g2 HD6.out.1).trans (blk_alloc (blk_alloc HX.out.1 _) _))), ((HFwy.out g3 HD7.out.2.1).trans ((HFwz.out g3 HD6.out.2.1).trans (blk_alloc (blk_alloc HX.out.2.1 _) _))), ((HFwy.out g4 HD7.out.2.2.1).trans ((HFwz.out g4 HD6.out.2.2.1).trans (blk_alloc (blk_alloc HX.out.2.2.1 _) _))), ((HFwy.out g5 HD7.out.2.2.2.1).trans ((HFwz.out g5 HD6.out.2.2.2.1).trans (blk_alloc (blk_alloc HX.out.2.2.2.1 _) _))), HBwy.out⟩
  clear HZwz HBwz HFwz HZwy HBwy HFwy HX
  go_loopw [8] (fun v8 wr => ∃ (m : Nat) (q : Int), Aside0 (m ≤ 256 ∧ q = (m : Int) - 1 ∧ wr.heap[g6]? = some (.cells (bg false (dn (x / 2 ^ m / d))) 197 (0, 0)) ∧ wr.heap[g7]? = some (.cells (bg false (dn (x / 2 ^ m % d))) 197 (0, 0)) ∧ wr.heap[g2]? = some (.cells (bg false (dn x)) 197 (0, 0)) ∧ wr.heap[g3]? = some (.cells (bg false (dn d)) 197 (0, 0)) ∧ wr.heap[g4]? = some (.cells (zb false) 197 (0, 0)) ∧ wr.heap[g5]? = some (.cells (zb false) 197 (0, 0)) ∧ Below w.heap.size w wr) ∧ v8 = .int .i64 q) (fun v8 _ => (intOf v8 + 1).toNat)
  case atStart => exact ⟨256, 255, ⟨by omega, by omega, by
      have e : x / 2 ^ 256 = 0 := Nat.div_eq_of_lt (by have := HP.out.1; rwa [show (2 : Nat) ^ 256 = P 8 by decide])
      rw [e, Nat.zero_div, Nat.zero_mod]; exact HK.out⟩, rfl⟩
  case round =>
    obtain ⟨m, q, HI, rfl⟩ := hrel
    clear HK
    cases m with
    | succ i =>
      obtain rfl : q = (i : Int) := by have := HI.out.2.1; omega
      have h0 : (0 : Int) ≤ i := by omega
      have hi : i < 256 := by have := HI.out.1; omega
      have HJ := Aside0.mk HI.out.2.2
      clear HI
      obtain ⟨a, ha⟩ : ∃ a, a = i / 32 := ⟨_, rfl⟩
      obtain ⟨b, hb⟩ : ∃ b, b = i % 32 := ⟨_, rfl⟩
      have hq32 : (i : Int) / 32 = (a : Int) := by omega
      have hr32 : (i : Int) % 32 = (b : Int) := by omega
      have ha8 : a < 8 := by omega
      have hai : (a : Int) < 8 := by omega
      have ha0 : (0 : Int) ≤ a := by omega
      have hb32 : (b : Int) < 32 := by omega
      have hb0 : (0 : Int) ≤ b := by omega
      have cx : wr.cell? ⟨g2, 1 + a, none⟩ = some (.int .u64 (dn x a : Nat)) := by rw [blk_cell HJ.out.2.2.1 (1 + a), bg_get _ _ ha8]
      have fx := blk_frozen HJ.out.2.2.1 (1 + a)
      have HAB := Lib.hid (And.intro ha hb)
      clear ha hb
      obtain ⟨bt, hbt⟩ : ∃ n : Nat, n = x / 2 ^ i % 2 := ⟨_, rfl⟩
      obtain ⟨q0, hq0⟩ : ∃ n : Nat, n = x / 2 ^ (i + 1) / d := ⟨_, rfl⟩
      obtain ⟨r0, hr0⟩ : ∃ n : Nat, n = x / 2 ^ (i + 1) % d := ⟨_, rfl⟩
      obtain ⟨rr, hrr⟩ : ∃ n : Nat, n = r0 + r0 + bt := ⟨_, rfl⟩
      have hJo := HJ.out
      rw [← hq0, ← hr0] at hJo
      have HK := Aside0.mk hJo
      have hbit : ((dn x a : Int) / 2 ^ b).tmod 2 = (bt : Int) := by rw [hbt, HAB.out.1, HAB.out.2]; exact bit_eq x i
      have hdb := div_bit x i d HP.out.2.1
      rw [← hq0, ← hr0, ← hbt] at hdb
      have hbt1 : bt ≤ 1 := by omega
      have hr0d : r0 < d := by rw [hr0]; exact Nat.mod_lt _ HP.out.2.1
      have hrr8 : rr < P 8 := by have := HP.out; omega
      have hT : ∀ W, Calls Tryd.prog 149 #[.agg (c8 (dn r0)), .int .u64 bt] W fun e w' => e = .returned (.agg (c8 (dn rr))) ∧ Below W.heap.size W w' := fun W => by rw [hrr]; exact twice_calls r0 bt hbt1 W
      have hS : ∀ W, Calls Tryd.prog 150 #[.agg (c8 (dn rr)), .agg (c8 (dn d))] W fun e w' => e = .returned (.int .i64 (sg rr d)) ∧ Below W.heap.size W w' := fun W => size_calls rr d hrr8 (by have := HP.out; omega) W
      obtain ⟨sv, hsv⟩ : ∃ v, v = sg rr d := ⟨_, rfl⟩
      rw [← hsv] at hS
      have HR := Lib.hid (And.intro hdb hrr)
      clear hJo HJ hbt hq0 hr0 hdb hrr hrr8 hr0d
      by_cases hge : d ≤ rr
      · have hsg : 0 ≤ sv := by rw [hsv]; unfold sg; split <;> (try split) <;> omega
        obtain ⟨e0, he0⟩ : ∃ n : Nat, rr = n + d := ⟨rr - d, by omega⟩
        have hL : ∀ W, Calls Tryd.prog 151 #[.agg (c8 (dn rr)), .agg (c8 (dn d))] W fun e w' => e = .returned (.agg (c8 (dn e0))) ∧ Below W.heap.size W w' := fun W => by rw [he0]; exact less_calls e0 d W
        have hQ : ∀ W, Calls Tryd.prog 149 #[.agg (c8 (dn q0)), .int .u64 1] W fun e w' => e = .returned (.agg (c8 (dn (q0 + q0 + 1)))) ∧ Below W.heap.size W w' := fun W => twice_calls q0 1 (Nat.le_refl 1) W
        have HE := Lib.hid (And.intro he0 hge)
        clear he0 hge hsv
        go_upto_region 7 with (first | ((with_reducible refine gate_dst (N := 27) rfl ?_); refine get81 rfl rfl g7 197 (false) (dn r0) _ rfl HK.out.2.1 Tryd.underlying195 rfl (by kernel_rfl) ?_) | (go_at_call 149; (with_reducible refine (hT _).mono ?_); rintro e w2 ⟨rfl, hb2⟩; have HA1 := Aside0.mk (And.intro (blk_below HK.out.1 hb2) (And.intro (blk_below HK.out.2.1 hb2) (And.intro (blk_below HK.out.2.2.1 hb2) (And.intro (blk_below HK.out.2.2.2.1 hb2) (And.intro (blk_below HK.out.2.2.2.2.1 hb2) (And.intro (blk_below HK.out.2.2.2.2.2.1 hb2) (HK.out.2.2.2.2.2.2.trans (hb2.mono HK.out.2.2.2.2.2.2.size)))))))); clear hb2) | ((with_reducible refine gate_store (t := 195) (p := 30) rfl ?_); refine put81 rfl rfl rfl g7 197 (false) (dn r0) (dn rr) rfl rfl HA1.out.2.1 (by kernel_rfl) HA1.out.2.2.2.2.2.2 HL7.out ?_; intro wt hz hfar hbz; have HZwt := Aside0.mk hz; have HFwt := Aside0.mk hfar; have HBwt := Aside0.mk hbz; clear hz hfar hbz))
        have HA2 := Aside0.mk (And.intro ((HFwt.out g6 HD7.out.2.2.2.2).trans HA1.out.1) (And.intro HZwt.out (And.intro ((HFwt.out g2 HD7.out.1).trans HA1.out.2.2.1) (And.intro ((HFwt.out g3 HD7.out.2.1).trans HA1.out.2.2.2.1) (And.intro ((HFwt.out g4 HD7.out.2.2.1).trans HA1.out.2.2.2.2.1) (And.intro ((HFwt.out g5 HD7.out.2.2.2.1).trans HA1.out.2.2.2.2.2.1) HBwt.out))))))
        clear HK HA1 HZwt HFwt HBwt cx fx hbit hT
        have HK := HA2
        clear HA2
        go_upto_region 9 with (first | ((with_reducible refine gate_dst (N := 32) rfl ?_); refine get81 rfl rfl g7 197 (false) (dn rr) _ rfl HK.out.2.1 Tryd.underlying195 rfl (by kernel_rfl) ?_) | ((with_reducible refine gate_dst (N := 34) rfl ?_); refine get81 rfl rfl g3 197 (false) (dn d) _ rfl HK.out.2.2.2.1 Tryd.underlying195 rfl (by kernel_rfl) ?_) | (go_at_call 150; (with_reducible refine (hS _).mono ?_); rintro e w2 ⟨rfl, hb2⟩; have HA3 := Aside0.mk (And.intro (blk_below HK.out.1 hb2) (And.intro (blk_below HK.out.2.1 hb2) (And.intro (blk_below HK.out.2.2.1 hb2) (And.intro (blk_below HK.out.2.2.2.1 hb2) (And.intro (blk_below HK.out.2.2.2.2.1 hb2) (And.intro (blk_below HK.out.2.2.2.2.2.1 hb2) (HK.out.2.2.2.2.2.2.trans (hb2.mono HK.out.2.2.2.2.2.2.size)))))))); clear hb2))
        clear HK hS
        have HK := HA3
        clear HA3
        go_upto_region 10 with (first | ((with_reducible refine gate_dst (N := 38) rfl ?_); refine get81 rfl rfl g7 197 (false) (dn rr) _ rfl HK.out.2.1 Tryd.underlying195 rfl (by kernel_rfl) ?_) | ((with_reducible refine gate_dst (N := 40) rfl ?_); refine get81 rfl rfl g3 197 (false) (dn d) _ rfl HK.out.2.2.2.1 Tryd.underlying195 rfl (by kernel_rfl) ?_) | (go_at_call 151; (with_reducible refine (hL _).mono ?_); rintro e w2 ⟨rfl, hb2⟩; have HA1 := Aside0.mk (And.intro (blk_below HK.out.1 hb2) (And.intro (blk_below HK.out.2.1 hb2) (And.intro (blk_below HK.out.2.2.1 hb2) (And.intro (blk_below HK.out.2.2.2.1 hb2) (And.intro (blk_below HK.out.2.2.2.2.1 hb2) (And.intro (blk_below HK.out.2.2.2.2.2.1 hb2) (HK.out.2.2.2.2.2.2.trans (hb2.mono HK.out.2.2.2.2.2.2.size)))))))); clear hb2) | ((with_reducible refine gate_store (t := 195) (p := 42) rfl ?_); refine put81 rfl rfl rfl g7 197 (false) (dn rr) (dn e0) rfl rfl HA1.out.2.1 (by kernel_rfl) HA1.out.2.2.2.2.2.2 HL7.out ?_; intro wt hz hfar hbz; have HZwt := Aside0.mk hz; have HFwt := Aside0.mk hfar; have HBwt := Aside0.mk hbz; clear hz hfar hbz))
        have HA2 := Aside0.mk (And.intro ((HFwt.out g6 HD7.out.2.2.2.2).trans HA1.out.1) (And.intro HZwt.out (And.intro ((HFwt.out g2 HD7.out.1).trans HA1.out.2.2.1) (And.intro ((HFwt.out g3 HD7.out.2.1).trans HA1.out.2.2.2.1) (And.intro ((HFwt.out g4 HD7.out.2.2.1).trans HA1.out.2.2.2.2.1) (And.intro ((HFwt.out g5 HD7.out.2.2.2.1).trans HA1.out.2.2.2.2.2.1) HBwt.out))))))
        clear HK HA1 HZwt HFwt HBwt hL
        have HK := HA2
        clear HA2
        go_wp2_with (first | ((with_reducible refine gate_dst (N := 44) rfl ?_); refine get81 rfl rfl g6 197 (false) (dn q0) _ rfl HK.out.1 Tryd.underlying195 rfl (by kernel_rfl) ?_) | (go_at_call 149; (with_reducible refine (hQ _).mono ?_); rintro e w2 ⟨rfl, hb2⟩; have HA1 := Aside0.mk (And.intro (blk_below HK.out.1 hb2) (And.intro (blk_below HK.out.2.1 hb2) (And.intro (blk_below HK.out.2.2.1 hb2) (And.intro (blk_below HK.out.2.2.2.1 hb2) (And.intro (blk_below HK.out.2.2.2.2.1 hb2) (And.intro (blk_below HK.out.2.2.2.2.2.1 hb2) (HK.out.2.2.2.2.2.2.trans (hb2.mono HK.out.2.2.2.2.2.2.size)))))))); clear hb2) | ((with_reducible refine gate_store (t := 195) (p := 47) rfl ?_); refine put81 rfl rfl rfl g6 197 (false) (dn q0) (dn (q0 + q0 + 1)) rfl rfl HA1.out.1 (by kernel_rfl) HA1.out.2.2.2.2.2.2 HL6.out ?_; intro wt hz hfar hbz; have HZwt := Aside0.mk hz; have HFwt := Aside0.mk hfar; have HBwt := Aside0.mk hbz; clear hz hfar hbz))
        go_roundw
        case rel =>
          have HA2 := Aside0.mk (And.intro HZwt.out (And.intro ((HFwt.out g7 HD6.out.2.2.2.2).trans HA1.out.2.1) (And.intro ((HFwt.out g2 HD6.out.1).trans HA1.out.2.2.1) (And.intro ((HFwt.out g3 HD6.out.2.1).trans HA1.out.2.2.2.1) (And.intro ((HFwt.out g4 HD6.out.2.2.1).trans HA1.out.2.2.2.2.1) (And.intro ((HFwt.out g5 HD6.out.2.2.2.1).trans HA1.out.2.2.2.2.2.1) HBwt.out))))))
          refine ⟨i, _, ⟨by omega, rfl, ?_⟩, rfl⟩
          have h1 := HR.out
          have h2 := HE.out
          rw [if_pos (by omega), if_pos (by omega)] at h1
          rw [show x / 2 ^ i / d = q0 + q0 + 1 by omega, show x / 2 ^ i % d = e0 by omega]
          exact HA2.out
        case measure => simp [intOf]
      · have hsg : ¬ 0 ≤ sv := by rw [hsv]; unfold sg; split <;> (try split) <;> omega
        have hsg' : sv < 0 := by omega
        have hQ : ∀ W, Calls Tryd.prog 149 #[.agg (c8 (dn q0)), .int .u64 0] W fun e w' => e = .returned (.agg (c8 (dn (2 * q0)))) ∧ Below W.heap.size W w' := fun W => twice0 q0 W
        have HE := Lib.hid hge
        clear hge hsv
        go_upto_region 7 with (first | ((with_reducible refine gate_dst (N := 27) rfl ?_); refine get81 rfl rfl g7 197 (false) (dn r0) _ rfl HK.out.2.1 Tryd.underlying195 rfl (by kernel_rfl) ?_) | (go_at_call 149; (with_reducible refine (hT _).mono ?_); rintro e w2 ⟨rfl, hb2⟩; have HA1 := Aside0.mk (And.intro (blk_below HK.out.1 hb2) (And.intro (blk_below HK.out.2.1 hb2) (And.intro (blk_below HK.out.2.2.1 hb2) (And.intro (blk_below HK.out.2.2.2.1 hb2) (And.intro (blk_below HK.out.2.2.2.2.1 hb2) (And.intro (blk_below HK.out.2.2.2.2.2.1 hb2) (HK.out.2.2.2.2.2.2.trans (hb2.mono HK.out.2.2.2.2.2.2.size)))))))); clear hb2) | ((with_reducible refine gate_store (t := 195) (p := 30) rfl ?_); refine put81 rfl rfl rfl g7 197 (false) (dn r0) (dn rr) rfl rfl HA1.out.2.1 (by kernel_rfl) HA1.out.2.2.2.2.2.2 HL7.out ?_; intro wt hz hfar hbz; have HZwt := Aside0.mk hz; have HFwt := Aside0.mk hfar; have HBwt := Aside0.mk hbz; clear hz hfar hbz))
        have HA2 := Aside0.mk (And.intro ((HFwt.out g6 HD7.out.2.2.2.2).trans HA1.out.1) (And.intro HZwt.out (And.intro ((HFwt.out g2 HD7.out.1).trans HA1.out.2.2.1) (And.intro ((HFwt.out g3 HD7.out.2.1).trans HA1.out.2.2.2.1) (And.intro ((HFwt.out g4 HD7.out.2.2.1).trans HA1.out.2.2.2.2.1) (And.intro ((HFwt.out g5 HD7.out.2.2.2.1).trans HA1.out.2.2.2.2.2.1) HBwt.out))))))
        clear HK HA1 HZwt HFwt HBwt cx fx hbit hT
        have HK := HA2
        clear HA2
        go_upto_region 11 with (first | ((with_reducible refine gate_dst (N := 32) rfl ?_); refine get81 rfl rfl g7 197 (false) (dn rr) _ rfl HK.out.2.1 Tryd.underlying195 rfl (by kernel_rfl) ?_) | ((with_reducible refine gate_dst (N := 34) rfl ?_); refine get81 rfl rfl g3 197 (false) (dn d) _ rfl HK.out.2.2.2.1 Tryd.underlying195 rfl (by kernel_rfl) ?_) | (go_at_call 150; (with_reducible refine (hS _).mono ?_); rintro e w2 ⟨rfl, hb2⟩; have HA3 := Aside0.mk (And.intro (blk_below HK.out.1 hb2) (And.intro (blk_below HK.out.2.1 hb2) (And.intro (blk_below HK.out.2.2.1 hb2) (And.intro (blk_below HK.out.2.2.2.1 hb2) (And.intro (blk_below HK.out.2.2.2.2.1 hb2) (And.intro (blk_below HK.out.2.2.2.2.2.1 hb2) (HK.out.2.2.2.2.2.2.trans (hb2.mono HK.out.2.2.2.2.2.2.size)))))))); clear hb2))
        clear HK hS
        have HK := HA3
        clear HA3
        go_wp2_with (first | ((with_reducible refine gate_dst (N := 44) rfl ?_); refine get81 rfl rfl g6 197 (false) (dn q0) _ rfl HK.out.1 Tryd.underlying195 rfl (by kernel_rfl) ?_) | (go_at_call 149; (with_reducible refine (hQ _).mono ?_); rintro e w2 ⟨rfl, hb2⟩; have HA1 := Aside0.mk (And.intro (blk_below HK.out.1 hb2) (And.intro (blk_below HK.out.2.1 hb2) (And.intro (blk_below HK.out.2.2.1 hb2) (And.intro (blk_below HK.out.2.2.2.1 hb2) (And.intro (blk_below HK.out.2.2.2.2.1 hb2) (And.intro (blk_below HK.out.2.2.2.2.2.1 hb2) (HK.out.2.2.2.2.2.2.trans (hb2.mono HK.out.2.2.2.2.2.2.size)))))))); clear hb2) | ((with_reducible refine gate_store (t := 195) (p := 47) rfl ?_); refine put81 rfl rfl rfl g6 197 (false) (dn q0) (dn (2 * q0)) rfl rfl HA1.out.1 (by kernel_rfl) HA1.out.2.2.2.2.2.2 HL6.out ?_; intro wt hz hfar hbz; have HZwt := Aside0.mk hz; have HFwt := Aside0.mk hfar; have HBwt := Aside0.mk hbz; clear hz hfar hbz))
        go_roundw
        case rel =>
          have HA2 := Aside0.mk (And.intro HZwt.out (And.intro ((HFwt.out g7 HD6.out.2.2.2.2).trans HA1.out.2.1) (And.intro ((HFwt.out g2 HD6.out.1).trans HA1.out.2.2.1) (And.intro ((HFwt.out g3 HD6.out.2.1).trans HA1.out.2.2.2.1) (And.intro ((HFwt.out g4 HD6.out.2.2.1).trans HA1.out.2.2.2.2.1) (And.intro ((HFwt.out g5 HD6.out.2.2.2.1).trans HA1.out.2.2.2.2.2.1) HBwt.out))))))
          refine ⟨i, _, ⟨by omega, rfl, ?_⟩, rfl⟩
          have h1 := HR.out
          have h2 := HE.out
          rw [if_neg (by omega), if_neg (by omega)] at h1
          rw [show x / 2 ^ i / d = 2 * q0 by omega, show x / 2 ^ i % d = rr by omega]
          exact HA2.out
        case measure => simp [intOf]
    | zero =>
      obtain rfl : q = -1 := by have := HI.out.2.1; omega
      have hIo := HI.out.2.2
      simp only [Nat.pow_zero, Nat.div_one] at hIo
      have HT := Aside0.mk hIo
      clear hIo HI
      have cn := (blk_cell HT.out.2.2.1 0).trans (bg_neg _ _)
      have fn := blk_frozen HT.out.2.2.1 0
      go_upto_region 17 with (fail)
      clear cn fn
      refine start_ (n := 4) (S := fun w' => w'.heap[g6]? = some (.cells (bg false (dn (x / d))) 197 (0, 0)) ∧ w'.heap[g7]? = some (.cells (bg false (dn (x % d))) 197 (0, 0)) ∧ w'.heap[g5]? = some (.cells (zb false) 197 (0, 0)) ∧ Below w.heap.size w w') (ds := [3]) #[false, false, false, false] (by kernel_rfl) rfl rfl ⟨HT.out.1, HT.out.2.1, HT.out.2.2.2.2.2.1, HT.out.2.2.2.2.2.2.drew⟩ (fun hHeld => ?_)
      refine take_ (i := 0) (N := some 68) (v := ?_) (a' := ?_) #[true, false, false, false] rfl rfl (by kernel_rfl) (fun _ _ _ h => h) (Or.inl ⟨by rfl, ?_⟩) hHeld ?_ ?_
      rotate_left
      · rintro w' ⟨s0, s1, s2, s3⟩
        refine get_run (x := Operand.tmp 6) ?_ g6 0 197 (bg false (dn (x / d))) (bg false (dn (x / d))) _ ?_ s0 rfl Tryd.underlying197 rfl ?_
        · rfl
        · rfl
        · kernel_rfl
      rotate_left
      · simp only [Act.put, List.setIfInBounds_toArray, List.set_cons_zero, List.set_cons_succ, i64_w, i32_w]
        rfl
      refine take_ (i := 1) (N := some 69) (v := ?_) (a' := ?_) #[true, true, false, false] rfl rfl (by kernel_rfl) (fun _ _ _ h => h) (Or.inl ⟨by rfl, ?_⟩) hHeld ?_ ?_
      rotate_left
      · rintro w' ⟨s0, s1, s2, s3⟩
        refine get_run (x := Operand.tmp 7) ?_ g7 0 197 (bg false (dn (x % d))) (bg false (dn (x % d))) _ ?_ s1 rfl Tryd.underlying197 rfl ?_
        · rfl
        · rfl
        · kernel_rfl
      rotate_left
      · simp only [Act.put, List.setIfInBounds_toArray, List.set_cons_zero, List.set_cons_succ, i64_w, i32_w]
        rfl
      refine one_ (i := 2) (N := none) #[true, true, true, false] rfl rfl (by kernel_rfl) (by decide) (fun K hK => ?_)
      refine skip_ (w1 := (wr.drew.setCells g4 0 (bg (false) (dn (x / d))).toList)) (by rfl) rfl (rowput_run (w := wr.drew) rfl g4 0 197 (zb false) _ (bg (false) (dn (x / d))).toList rfl rfl rfl HT.out.2.2.2.2.1 (by kernel_rfl) (Nat.le_refl 9) (bg_one _ _) rfl) ?_
      have pf9 := put9_facts (w := wr.drew) g4 197 (zb false) (false) (dn (x / d)) HT.out.2.2.2.2.1 rfl HT.out.2.2.2.2.2.2.drew HL4.out
      generalize (wr.drew.setCells g4 0 (bg (false) (dn (x / d))).toList) = w8 at pf9 ⊢
      obtain ⟨hk8, hfar8, hb8⟩ := pf9
      refine hK.out _ _ ⟨((hfar8 g6 (by have := HD6.out; omega)).trans hHeld.1), ((hfar8 g7 (by have := HD7.out; omega)).trans hHeld.2.1), ((hfar8 g5 HD5.out.2).trans hHeld.2.2.1), hb8⟩ (fun hHeld => ?_)
      clear hK K
      refine last_ (i := 3) (N := none) #[true, true, true, true] rfl rfl (by kernel_rfl) (by decide) (fun K hK => ?_)
      refine skip_ (w1 := (w8.setCells g5 0 (bg (false) (dn (x % d))).toList)) (by rfl) rfl (rowput_run (w := w8) rfl g5 0 197 (zb false) _ (bg (false) (dn (x % d))).toList rfl rfl rfl hHeld.2.2.1 (by kernel_rfl) (Nat.le_refl 9) (bg_one _ _) rfl) ?_
      have pf9 := put9_facts (w := w8) g5 197 (zb false) (false) (dn (x % d)) hHeld.2.2.1 rfl hHeld.2.2.2 HL5.out
      generalize (w8.setCells g5 0 (bg (false) (dn (x % d))).toList) = w9 at pf9 ⊢
      obtain ⟨hk9, hfar9, hb9⟩ := pf9
      refine hK.out _ _ ?_
      clear hK K
      refine done_ (by kernel_rfl) ?_
      go_wp2_with (fail)
      refine bodyPost_ret (results_list (rs := [.cell 4 197, .cell 5 197]) rfl (by simp) (.cell g4 197 _ (0, 0) _ rfl ((hfar9 g4 HD5.out.1).trans hk8) Tryd.underlying197 rfl (by kernel_rfl) (.cell g5 197 _ (0, 0) _ rfl hk9 Tryd.underlying197 rfl (by kernel_rfl) .nil))) rfl ?_
      exact ⟨rfl, hb9⟩
theorem big_pos (k : Nat) : big (k : Int) = bg false (dn k) := by unfold big; rw [decide_eq_false (show ¬ (k : Int) < 0 by omega), show (k : Int).natAbs = k by omega]
def more14 (a b : Int) : Int := (a * b + 1073741823) / 1073741824
set_option maxHeartbeats 2000000 in
set_option maxRecDepth 100000 in
theorem more14_true_true (a b n : Int) (a0 : 0 ≤ a) (a1 : a ≤ 9223372036854775807) (b0 : 0 ≤ b) (b1 : b ≤ 9223372036854775807) (hN : ∀ W, Calls Tryd.prog 131 #[.agg (big (a * b / 1073741824))] W fun e w' => e = .returned (.tuple #[.int .i64 n, .bool true]) ∧ Below W.heap.size W w') (hr : a * b % 1073741824 = 0) (w : World) : Calls Tryd.prog 98 #[.int .i64 a, .int .i64 b] w fun e w' => e = .returned (.int .i64 (n)) ∧ Below w.heap.size w w' := by
  have hpb : 0 ≤ a * b ∧ a * b ≤ 9223372036854775807 * 9223372036854775807 := ⟨Int.mul_nonneg a0 b0, Int.mul_le_mul a1 b1 b0 (by omega)⟩
  obtain ⟨p, hp⟩ : ∃ p, p = a * b := ⟨_, rfl⟩
  rw [← hp] at hN hr hpb
  obtain ⟨q, hq⟩ : ∃ q, q = p / 1073741824 := ⟨_, rfl⟩
  rw [← hq] at hN
  obtain ⟨r, hrr⟩ : ∃ r, r = p % 1073741824 := ⟨_, rfl⟩
  rw [← hrr] at hr
  have hI1 := fun W => int_pos a (by omega) a1 a0 W
  have hI2 := fun W => int_pos b (by omega) b1 b0 W
  have hM : ∀ W, Calls Tryd.prog 128 #[.agg (big a), .agg (big b)] W fun e w' => e = .returned (.agg (big p)) ∧ Below W.heap.size W w' := fun W => by
    have e4 : P 4 = 340282366920938463463374607431768211456 := by decide
    have h := mul_false_false a.natAbs b.natAbs (by omega) (by omega) W
    rw [← big_pos, ← big_pos, show ((a.natAbs : Nat) : Int) = a by omega, show ((b.natAbs : Nat) : Int) = b by omega] at h
    have e : big p = bg (false && !(a.natAbs * b.natAbs == 0)) (dn (a.natAbs * b.natAbs)) := by
      rw [show p = ((a.natAbs * b.natAbs : Nat) : Int) by rw [hp, Int.natCast_mul]; congr 1 <;> omega, big_pos]; rfl
    rw [e]; exact h
  have hP : ∀ W, Calls Tryd.prog 130 #[.int .i64 30] W fun e w' => e = .returned (.agg (big 1073741824)) ∧ Below W.heap.size W w' := fun W => by rw [show (1073741824 : Int) = ((2 ^ 30 : Nat) : Int) by decide, big_pos]; exact power_calls 30 (by omega) W
  have hD : ∀ W, Calls Tryd.prog 127 #[.agg (big p), .agg (big 1073741824)] W fun e w' => e = .returned (.tuple #[.agg (big q), .agg (big r)]) ∧ Below W.heap.size W w' := fun W => by
    have h := div_false p.natAbs 1073741824 (by rw [P8]; omega) (by omega) (by rw [P8]; omega) W
    rw [← big_pos, ← big_pos, ← big_pos, ← big_pos, show ((p.natAbs : Nat) : Int) = p by omega, Int.natCast_ediv, Int.natCast_emod, show ((p.natAbs : Nat) : Int) = p by omega] at h
    rw [hq, hrr]; exact h
  have hZ : ∀ W, Calls Tryd.prog 132 #[.agg (c8 (dn r.natAbs))] W fun e w' => e = .returned (.bool true) ∧ Below W.heap.size W w' := fun W => by
    have := zero_calls r.natAbs (by rw [P8]; omega) W
    rwa [show (r.natAbs == 0) = true by simp [hr]] at this
  clear hp hpb hq hrr hr a0 a1 b0 b1
  go_enter Tryd.func98, Tryd.ntmps98
  go_upto_region 2 with (first | (go_at_call 129; first | (with_reducible refine (hI1 _).mono ?_); rintro e u1 ⟨rfl, hb⟩; have Bu1 := Aside0.mk hb; clear hb hI1 | (with_reducible refine (hI2 _).mono ?_); rintro e u2 ⟨rfl, hb⟩; have Bu2 := Aside0.mk (Bu1.out.trans (hb.mono Bu1.out.size)); clear hb) | (go_at_call 128; (with_reducible refine (hM _).mono ?_); rintro e u3 ⟨rfl, hb⟩; have Bu3 := Aside0.mk (Bu2.out.trans (hb.mono Bu2.out.size)); clear hb) | (go_at_call 130; (with_reducible refine (hP _).mono ?_); rintro e u4 ⟨rfl, hb⟩; have Bu4 := Aside0.mk (Bu3.out.trans (hb.mono Bu3.out.size)); clear hb) | (go_at_call 127; (with_reducible refine (hD _).mono ?_); rintro e u5 ⟨rfl, hb⟩; have Bu5 := Aside0.mk (Bu4.out.trans (hb.mono Bu4.out.size)); clear hb) | ((with_reducible refine gate_store (t := 197) (p := 5) rfl ?_); refine put9 rfl rfl rfl u5.heap.size 197 (zb false) (decide (q < 0)) (dn q.natAbs) rfl rfl (blk_alloc (heap_alloc_new u5 _) _) (by kernel_rfl) rfl ((Bu5.out.alloc Bu5.out.size _).alloc (by have := Bu5.out.size; simp; omega) _) Bu5.out.size ?_; intro wz hz hfar hbz; have HZwz := Aside0.mk hz; have HFwz := Aside0.mk hfar; have HBwz := Aside0.mk hbz; clear hz hfar hbz) | ((with_reducible refine gate_store (t := 197) (p := 6) rfl ?_); refine put9 rfl rfl rfl (u5.heap.size + 1) 197 (zb false) (decide (r < 0)) (dn r.natAbs) rfl rfl ((HFwz.out (u5.heap.size + 1) (by omega)).trans (new1 u5 _ _)) (by kernel_rfl) rfl HBwz.out (by have := Bu5.out.size; omega) ?_; intro wy hz hfar hbz; have HZwy := Aside0.mk hz; have HFwy := Aside0.mk hfar; have HBwy := Aside0.mk hbz; clear hz hfar hbz))
  have k5 : wy.heap[u5.heap.size]? = some (.cells (big q) 197 (0, 0)) := (HFwy.out _ (by omega)).trans HZwz.out
  obtain ⟨g5, hg5⟩ : ∃ g, g = u5.heap.size := ⟨_, rfl⟩
  obtain ⟨g6, hg6⟩ : ∃ g, g = u5.heap.size + 1 := ⟨_, rfl⟩
  rw [← hg6, ← hg5]
  have k6 := HZwy.out
  rw [← hg5] at k5
  rw [← hg6] at k6
  have HK := Aside0.mk (And.intro k5 (And.intro k6 HBwy.out))
  clear hg5 hg6 k5 k6 HZwz HBwz HFwz HZwy HBwy HFwy hI2 hM hP hD
  have hN' : ∀ W, Calls Tryd.prog 131 #[.agg (bg (decide (q < 0)) (dn q.natAbs))] W fun e w' => e = .returned (.tuple #[.int .i64 n, .bool true]) ∧ Below W.heap.size W w' := hN
  clear hN
  go_wp2_with (first | ((with_reducible refine gate_dst (N := 20) rfl ?_); refine get9 rfl rfl g5 197 (decide (q < 0)) (dn q.natAbs) _ rfl HK.out.1 Tryd.underlying197 rfl (by kernel_rfl) ?_) | ((with_reducible refine gate_dst (N := 25) rfl ?_); refine get81 rfl rfl g6 197 (decide (r < 0)) (dn r.natAbs) _ rfl HK6.out.1 Tryd.underlying195 rfl (by kernel_rfl) ?_) | (go_at_call 131; (with_reducible refine (hN' _).mono ?_); rintro e u6 ⟨rfl, hb⟩; have HK6 := Aside0.mk (And.intro (blk_below HK.out.2.1 hb) (HK.out.2.2.trans (hb.mono HK.out.2.2.size))); clear hb) | (go_at_call 132; (with_reducible refine (hZ _).mono ?_); rintro e u7 ⟨rfl, hb⟩; have B7 := Aside0.mk (HK6.out.2.trans (hb.mono HK6.out.2.size)); clear hb))
  go_ret
  exact ⟨rfl, B7.out⟩
set_option maxHeartbeats 2000000 in
set_option maxRecDepth 100000 in
theorem more14_true_false (a b n : Int) (a0 : 0 ≤ a) (a1 : a ≤ 9223372036854775807) (b0 : 0 ≤ b) (b1 : b ≤ 9223372036854775807) (hN : ∀ W, Calls Tryd.prog 131 #[.agg (big (a * b / 1073741824))] W fun e w' => e = .returned (.tuple #[.int .i64 n, .bool true]) ∧ Below W.heap.size W w') (hr : a * b % 1073741824 ≠ 0) (w : World) : Calls Tryd.prog 98 #[.int .i64 a, .int .i64 b] w fun e w' => e = .returned (.int .i64 (wrap64 (n + 1))) ∧ Below w.heap.size w w' := by
  have hpb : 0 ≤ a * b ∧ a * b ≤ 9223372036854775807 * 9223372036854775807 := ⟨Int.mul_nonneg a0 b0, Int.mul_le_mul a1 b1 b0 (by omega)⟩
  obtain ⟨p, hp⟩ : ∃ p, p = a * b := ⟨_, rfl⟩
  rw [← hp] at hN hr hpb
  obtain ⟨q, hq⟩ : ∃ q, q = p / 1073741824 := ⟨_, rfl⟩
  rw [← hq] at hN
  obtain ⟨r, hrr⟩ : ∃ r, r = p % 1073741824 := ⟨_, rfl⟩
  rw [← hrr] at hr
  have hI1 := fun W => int_pos a (by omega) a1 a0 W
  have hI2 := fun W => int_pos b (by omega) b1 b0 W
  have hM : ∀ W, Calls Tryd.prog 128 #[.agg (big a), .agg (big b)] W fun e w' => e = .returned (.agg (big p)) ∧ Below W.heap.size W w' := fun W => by
    have e4 : P 4 = 340282366920938463463374607431768211456 := by decide
    have h := mul_false_false a.natAbs b.natAbs (by omega) (by omega) W
    rw [← big_pos, ← big_pos, show ((a.natAbs : Nat) : Int) = a by omega, show ((b.natAbs : Nat) : Int) = b by omega] at h
    have e : big p = bg (false && !(a.natAbs * b.natAbs == 0)) (dn (a.natAbs * b.natAbs)) := by
      rw [show p = ((a.natAbs * b.natAbs : Nat) : Int) by rw [hp, Int.natCast_mul]; congr 1 <;> omega, big_pos]; rfl
    rw [e]; exact h
  have hP : ∀ W, Calls Tryd.prog 130 #[.int .i64 30] W fun e w' => e = .returned (.agg (big 1073741824)) ∧ Below W.heap.size W w' := fun W => by rw [show (1073741824 : Int) = ((2 ^ 30 : Nat) : Int) by decide, big_pos]; exact power_calls 30 (by omega) W
  have hD : ∀ W, Calls Tryd.prog 127 #[.agg (big p), .agg (big 1073741824)] W fun e w' => e = .returned (.tuple #[.agg (big q), .agg (big r)]) ∧ Below W.heap.size W w' := fun W => by
    have h := div_false p.natAbs 1073741824 (by rw [P8]; omega) (by omega) (by rw [P8]; omega) W
    rw [← big_pos, ← big_pos, ← big_pos, ← big_pos, show ((p.natAbs : Nat) : Int) = p by omega, Int.natCast_ediv, Int.natCast_emod, show ((p.natAbs : Nat) : Int) = p by omega] at h
    rw [hq, hrr]; exact h
  have hZ : ∀ W, Calls Tryd.prog 132 #[.agg (c8 (dn r.natAbs))] W fun e w' => e = .returned (.bool false) ∧ Below W.heap.size W w' := fun W => by
    have := zero_calls r.natAbs (by rw [P8]; omega) W
    rwa [show (r.natAbs == 0) = false by simp [hr]] at this
  clear hp hpb hq hrr hr a0 a1 b0 b1
  go_enter Tryd.func98, Tryd.ntmps98
  go_upto_region 2 with (first | (go_at_call 129; first | (with_reducible refine (hI1 _).mono ?_); rintro e u1 ⟨rfl, hb⟩; have Bu1 := Aside0.mk hb; clear hb hI1 | (with_reducible refine (hI2 _).mono ?_); rintro e u2 ⟨rfl, hb⟩; have Bu2 := Aside0.mk (Bu1.out.trans (hb.mono Bu1.out.size)); clear hb) | (go_at_call 128; (with_reducible refine (hM _).mono ?_); rintro e u3 ⟨rfl, hb⟩; have Bu3 := Aside0.mk (Bu2.out.trans (hb.mono Bu2.out.size)); clear hb) | (go_at_call 130; (with_reducible refine (hP _).mono ?_); rintro e u4 ⟨rfl, hb⟩; have Bu4 := Aside0.mk (Bu3.out.trans (hb.mono Bu3.out.size)); clear hb) | (go_at_call 127; (with_reducible refine (hD _).mono ?_); rintro e u5 ⟨rfl, hb⟩; have Bu5 := Aside0.mk (Bu4.out.trans (hb.mono Bu4.out.size)); clear hb) | ((with_reducible refine gate_store (t := 197) (p := 5) rfl ?_); refine put9 rfl rfl rfl u5.heap.size 197 (zb false) (decide (q < 0)) (dn q.natAbs) rfl rfl (blk_alloc (heap_alloc_new u5 _) _) (by kernel_rfl) rfl ((Bu5.out.alloc Bu5.out.size _).alloc (by have := Bu5.out.size; simp; omega) _) Bu5.out.size ?_; intro wz hz hfar hbz; have HZwz := Aside0.mk hz; have HFwz := Aside0.mk hfar; have HBwz := Aside0.mk hbz; clear hz hfar hbz) | ((with_reducible refine gate_store (t := 197) (p := 6) rfl ?_); refine put9 rfl rfl rfl (u5.heap.size + 1) 197 (zb false) (decide (r < 0)) (dn r.natAbs) rfl rfl ((HFwz.out (u5.heap.size + 1) (by omega)).trans (new1 u5 _ _)) (by kernel_rfl) rfl HBwz.out (by have := Bu5.out.size; omega) ?_; intro wy hz hfar hbz; have HZwy := Aside0.mk hz; have HFwy := Aside0.mk hfar; have HBwy := Aside0.mk hbz; clear hz hfar hbz))
  have k5 : wy.heap[u5.heap.size]? = some (.cells (big q) 197 (0, 0)) := (HFwy.out _ (by omega)).trans HZwz.out
  obtain ⟨g5, hg5⟩ : ∃ g, g = u5.heap.size := ⟨_, rfl⟩
  obtain ⟨g6, hg6⟩ : ∃ g, g = u5.heap.size + 1 := ⟨_, rfl⟩
  rw [← hg6, ← hg5]
  have k6 := HZwy.out
  rw [← hg5] at k5
  rw [← hg6] at k6
  have HK := Aside0.mk (And.intro k5 (And.intro k6 HBwy.out))
  clear hg5 hg6 k5 k6 HZwz HBwz HFwz HZwy HBwy HFwy hI2 hM hP hD
  have hN' : ∀ W, Calls Tryd.prog 131 #[.agg (bg (decide (q < 0)) (dn q.natAbs))] W fun e w' => e = .returned (.tuple #[.int .i64 n, .bool true]) ∧ Below W.heap.size W w' := hN
  clear hN
  go_wp2_with (first | ((with_reducible refine gate_dst (N := 20) rfl ?_); refine get9 rfl rfl g5 197 (decide (q < 0)) (dn q.natAbs) _ rfl HK.out.1 Tryd.underlying197 rfl (by kernel_rfl) ?_) | ((with_reducible refine gate_dst (N := 25) rfl ?_); refine get81 rfl rfl g6 197 (decide (r < 0)) (dn r.natAbs) _ rfl HK6.out.1 Tryd.underlying195 rfl (by kernel_rfl) ?_) | (go_at_call 131; (with_reducible refine (hN' _).mono ?_); rintro e u6 ⟨rfl, hb⟩; have HK6 := Aside0.mk (And.intro (blk_below HK.out.2.1 hb) (HK.out.2.2.trans (hb.mono HK.out.2.2.size))); clear hb) | (go_at_call 132; (with_reducible refine (hZ _).mono ?_); rintro e u7 ⟨rfl, hb⟩; have B7 := Aside0.mk (HK6.out.2.trans (hb.mono HK6.out.2.size)); clear hb))
  go_ret
  exact ⟨rfl, B7.out⟩
theorem more14_calls (a b : Int) (a0 : 0 ≤ a) (a1 : a ≤ 2097152) (b0 : 0 ≤ b) (b1 : b ≤ 9223372036854775807) (w : World) : Calls Tryd.prog 98 #[.int .i64 a, .int .i64 b] w fun e w' => e = .returned (.int .i64 (more14 a b)) ∧ Below w.heap.size w w' := by
  have hp0 : 0 ≤ a * b := Int.mul_nonneg a0 b0
  have hp1 : a * b ≤ 2097152 * 9223372036854775807 := Int.mul_le_mul a1 b1 b0 (by omega)
  have hN : ∀ W, Calls Tryd.prog 131 #[.agg (big (a * b / 1073741824))] W fun e w' => e = .returned (.tuple #[.int .i64 (a * b / 1073741824), .bool true]) ∧ Below W.heap.size W w' := fun W => by
    obtain ⟨m, hm⟩ : ∃ m : Nat, a * b / 1073741824 = (m : Int) := ⟨(a * b / 1073741824).toNat, by omega⟩
    rw [hm, big_pos]
    have hT := fun W => to_false_ok m (by omega) W
    have hH : ((m / 18446744073709551616 : Nat) : Int) = 0 := by omega
    simp only [hH] at hT
    have := number_pos false _ _ (by omega) (by omega) hT W
    rwa [show ((m % 18446744073709551616 : Nat) : Int) = m by omega] at this
  unfold more14
  by_cases hr : a * b % 1073741824 = 0
  · have := more14_true_true a b _ a0 (by omega) b0 b1 hN hr w
    rwa [show a * b / 1073741824 = (a * b + 1073741823) / 1073741824 by omega] at this
  · have := more14_true_false a b _ a0 (by omega) b0 b1 hN hr w
    rwa [show wrap64 (a * b / 1073741824 + 1) = (a * b + 1073741823) / 1073741824 by unfold wrap64; omega] at this
end Go.Proofs.YtpihgdehgkclmaaDoor.Bign
