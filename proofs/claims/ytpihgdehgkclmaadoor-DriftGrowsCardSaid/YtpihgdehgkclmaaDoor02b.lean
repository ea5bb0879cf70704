/-
  The reference's numbers of 256 bits, walked: one, Zero, From.
-/
import Derived.Test.YtpihgdehgkclmaaDoor02
namespace Go.Proofs.YtpihgdehgkclmaaDoor.Big
open Go.RowKit Go.Proofs.YtpihgdehgkclmaaDoorW.PrintWords Go.Proofs.YtpihgdehgkclmaaDoorW.PrintLast Go.Proofs.YtpihgdehgkclmaaDoorW.PrintMore
set_option linter.unusedVariables false
set_option linter.unusedSimpArgs false
abbrev o8 : Array Value := #[.int .u64 1, .int .u64 0, .int .u64 0, .int .u64 0, .int .u64 0, .int .u64 0, .int .u64 0, .int .u64 0]
theorem one_eq : o8 = c8 (dn 1) := by kernel_rfl
theorem zero_of {n : Nat} (h : n < P 8) (hd : ∀ j, j < 8 → dn n j = 0) : n = 0 := by
  have : ∀ k, k ≤ 8 → n % P k = 0 := by
    intro k
    induction k with
    | zero => intro _; simp [P_zero, Nat.mod_one]
    | succ k ih => intro hk; rw [mod_succ, ih (by omega), hd k (by omega)]; simp
  have h8 := this 8 (Nat.le_refl 8)
  rwa [Nat.mod_eq_of_lt h] at h8
def l8 (f : Nat → Nat) : List Int := [f 0, f 1, f 2, f 3, f 4, f 5, f 6, f 7]
theorem eqz (n : Nat) (h : n < P 8) (W : World) : (binOp .eql 195 (.agg (c8 (dn n))) (.agg z8)).run Tryd.prog W = .ok (.bool (n == 0)) W := by
  have he := run_equalIn_ints (P := Tryd.prog) W 9998 195 40 8 .u64 Tryd.underlying195 Tryd.underlying40 (fun _ => by kernel_rfl) (l8 (dn n)) [0, 0, 0, 0, 0, 0, 0, 0] rfl rfl
  have e1 : ((l8 (dn n)).map (Value.int .u64)).toArray = c8 (dn n) := rfl
  have e2 : (([0, 0, 0, 0, 0, 0, 0, 0] : List Int).map (Value.int .u64)).toArray = z8 := rfl
  have e3 : (l8 (dn n) == [0, 0, 0, 0, 0, 0, 0, 0]) = (n == 0) := by
    rw [Bool.eq_iff_iff, beq_iff_eq, beq_iff_eq]
    constructor
    · intro e
      simp only [l8, List.cons.injEq, and_true] at e
      refine zero_of h (fun j hj => ?_)
      have : j = 0 ∨ j = 1 ∨ j = 2 ∨ j = 3 ∨ j = 4 ∨ j = 5 ∨ j = 6 ∨ j = 7 := by omega
      obtain ⟨q0, q1, q2, q3, q4, q5, q6, q7⟩ := e
      rcases this with rfl | rfl | rfl | rfl | rfl | rfl | rfl | rfl <;> omega
    · intro e
      subst e
      simp [l8, dn]
  rw [e1, e2, e3] at he
  have hb : (binOp .eql 195 (.agg (c8 (dn n))) (.agg z8)).run Tryd.prog W = ((Op.equalIn 10000 195 (.agg (c8 (dn n))) (.agg z8)).run Tryd.prog W).andThen fun b w => .ok (.bool b) w := by
    simp [binOp, Op.equal, Op.maxDepth]
  rw [hb, he]; rfl
/-- a number's nine cells: below 0 or not, its digits -/
def bg (b : Bool) (f : Nat → Nat) : Array Value := #[.bool b, .int .u64 (f 0), .int .u64 (f 1), .int .u64 (f 2), .int .u64 (f 3), .int .u64 (f 4), .int .u64 (f 5), .int .u64 (f 6), .int .u64 (f 7)]
abbrev zb (b : Bool) : Array Value := #[.bool b, .int .u64 0, .int .u64 0, .int .u64 0, .int .u64 0, .int .u64 0, .int .u64 0, .int .u64 0, .int .u64 0]
theorem zb_eq (b : Bool) : zb b = bg b (dn 0) := by kernel_rfl
theorem bg_get (b : Bool) (f : Nat → Nat) {i : Nat} (h : i < 8) : (bg b f)[1 + i]? = some (.int .u64 (f i)) := by
  have : i = 0 ∨ i = 1 ∨ i = 2 ∨ i = 3 ∨ i = 4 ∨ i = 5 ∨ i = 6 ∨ i = 7 := by omega
  rcases this with rfl | rfl | rfl | rfl | rfl | rfl | rfl | rfl <;> rfl
theorem bg_neg (b : Bool) (f : Nat → Nat) : (bg b f)[0]? = some (.bool b) := rfl
theorem bg_setneg (b c : Bool) (f : Nat → Nat) : (bg b f).setIfInBounds 0 (.bool c) = bg c f := rfl
theorem bg_congr {b : Bool} {f g : Nat → Nat} (h : ∀ j, j < 8 → f j = g j) : bg b f = bg b g := by
  unfold bg
  rw [h 0 (by omega), h 1 (by omega), h 2 (by omega), h 3 (by omega), h 4 (by omega), h 5 (by omega), h 6 (by omega), h 7 (by omega)]
theorem bg_set (b : Bool) (f g : Nat → Nat) {i v : Nat} (h : i < 8) (hv : g i = v) (hg : ∀ j, j ≠ i → g j = f j) : (bg b f).setIfInBounds (1 + i) (.int .u64 (v : Int)) = bg b g := by
  subst hv
  have h' : i = 0 ∨ i = 1 ∨ i = 2 ∨ i = 3 ∨ i = 4 ∨ i = 5 ∨ i = 6 ∨ i = 7 := by omega
  have e : bg b g = bg b (fun j => if j = i then g i else f j) := bg_congr (fun j _ => by by_cases hj : j = i <;> simp [hj]; exact hg j hj)
  rw [e]
  rcases h' with rfl | rfl | rfl | rfl | rfl | rfl | rfl | rfl <;> rfl
section
variable {P : Program} {ops : Array Oper} {rest : List Oper} {o : Oper} {a : Act} {w : World} {Q : Exit → Act → World → Prop}
theorem get81 (hgd : o.guard = none) {ty : TypeId} {x : Operand} (ho : o.op = .load ty x) (g : Nat) (t : TypeId) (b : Bool) (f : Nat → Nat) (d : TypeDesc) (hx : a.eval x = .pointer (some ⟨g, 1, none⟩)) (hg : w.heap[g]? = some (.cells (bg b f) t (0, 0))) (hu : P.underlying ty = some d) (hd : (match d with | .struct _ | .array _ _ => true | _ => false) = true) (hi : (P.info? ty).map (·.size) = some 8) (h : wpList P ops Q rest (a.put o.dst (.agg (c8 f))) w) : wpList P ops Q (o :: rest) a w :=
  rowget_event hgd ho g 1 t (bg b f) (c8 f) d hx hg rfl hu hd hi h
theorem get9 (hgd : o.guard = none) {ty : TypeId} {x : Operand} (ho : o.op = .load ty x) (g : Nat) (t : TypeId) (b : Bool) (f : Nat → Nat) (d : TypeDesc) (hx : a.eval x = .pointer (some ⟨g, 0, none⟩)) (hg : w.heap[g]? = some (.cells (bg b f) t (0, 0))) (hu : P.underlying ty = some d) (hd : (match d with | .struct _ | .array _ _ => true | _ => false) = true) (hi : (P.info? ty).map (·.size) = some 9) (h : wpList P ops Q rest (a.put o.dst (.agg (bg b f))) w) : wpList P ops Q (o :: rest) a w :=
  rowget_event hgd ho g 0 t (bg b f) (bg b f) d hx hg rfl hu hd hi h
theorem c8_one (f : Nat → Nat) : ∀ q ∈ (c8 f).toList, q.oneCell' = true := by
  intro q hq
  simp only [c8, List.mem_cons, List.not_mem_nil, or_false] at hq
  rcases hq with rfl | rfl | rfl | rfl | rfl | rfl | rfl | rfl <;> rfl
theorem bg_one (b : Bool) (f : Nat → Nat) : ∀ q ∈ (bg b f).toList, q.oneCell' = true := by
  intro q hq
  simp only [bg, List.mem_cons, List.not_mem_nil, or_false] at hq
  rcases hq with rfl | rfl | rfl | rfl | rfl | rfl | rfl | rfl | rfl <;> rfl
theorem put81 (hgd : o.guard = none) {ty : TypeId} {x y : Operand} (ho : o.op = .store ty x y) (hN : o.dst = none) (g : Nat) (t : TypeId) (b : Bool) (h0 f : Nat → Nat) (hx : a.eval x = .pointer (some ⟨g, 1, none⟩)) (hy : a.eval y = .agg (c8 f)) (hg : w.heap[g]? = some (.cells (bg b h0) t (0, 0))) (hi : (P.info? ty).map (·.size) = some 8) {B : Nat} {w0 : World} (HB : Below B w0 w) (hle : B ≤ g)
    (h : ∀ w', w'.heap[g]? = some (.cells (bg b f) t (0, 0)) → (∀ k, k ≠ g → w'.heap[k]? = w.heap[k]?) → Below B w0 w' → wpList P ops Q rest a w') : wpList P ops Q (o :: rest) a w :=
  rowput_event hgd ho hN g 1 t (bg b h0) (bg b f) (.agg (c8 f)) (c8 f).toList hx hy rfl hg hi (Nat.le_refl 9) (c8_one f) rfl HB hle h
theorem put9 (hgd : o.guard = none) {ty : TypeId} {x y : Operand} (ho : o.op = .store ty x y) (hN : o.dst = none) (g : Nat) (t : TypeId) (cur : Array Value) (b : Bool) (f : Nat → Nat) (hx : a.eval x = .pointer (some ⟨g, 0, none⟩)) (hy : a.eval y = .agg (bg b f)) (hg : w.heap[g]? = some (.cells cur t (0, 0))) (hi : (P.info? ty).map (·.size) = some 9) (hcur : cur.size = 9) {B : Nat} {w0 : World} (HB : Below B w0 w) (hle : B ≤ g)
    (h : ∀ w', w'.heap[g]? = some (.cells (bg b f) t (0, 0)) → (∀ k, k ≠ g → w'.heap[k]? = w.heap[k]?) → Below B w0 w' → wpList P ops Q rest a w') : wpList P ops Q (o :: rest) a w := by
  refine rowput_event hgd ho hN g 0 t cur (bg b f) (.agg (bg b f)) (bg b f).toList hx hy rfl hg hi ?_ (bg_one b f) ?_ HB hle h
  · show 0 + 9 ≤ cur.size; omega
  · have : cur.toList.drop (0 + (bg b f).toList.length) = [] := by
      rw [List.drop_eq_nil_iff]; show cur.toList.length ≤ 0 + 9; rw [Array.length_toList]; omega
    rw [this]; simp
theorem put9z (hgd : o.guard = none) {ty : TypeId} {x y : Operand} (ho : o.op = .store ty x y) (hN : o.dst = none) (g : Nat) (t : TypeId) (cur : Array Value) (b : Bool) (hx : a.eval x = .pointer (some ⟨g, 0, none⟩)) (hy : a.eval y = .agg (zb b)) (hg : w.heap[g]? = some (.cells cur t (0, 0))) (hi : (P.info? ty).map (·.size) = some 9) (hcur : cur.size = 9) {B : Nat} {w0 : World} (HB : Below B w0 w) (hle : B ≤ g)
    (h : ∀ w', w'.heap[g]? = some (.cells (bg b (dn 0)) t (0, 0)) → (∀ k, k ≠ g → w'.heap[k]? = w.heap[k]?) → Below B w0 w' → wpList P ops Q rest a w') : wpList P ops Q (o :: rest) a w :=
  put9 hgd ho hN g t cur b (dn 0) hx (by rw [hy, zb_eq]) hg hi hcur HB hle h
/-- a store of eight, of nine cells: the world behind it -/
theorem put81_facts (g : Nat) (t : TypeId) (b : Bool) (h0 f : Nat → Nat) (hg : w.heap[g]? = some (.cells (bg b h0) t (0, 0))) {B : Nat} {w0 : World} (HB : Below B w0 w) (hle : B ≤ g) :
    (w.setCells g 1 (c8 f).toList).heap[g]? = some (.cells (bg b f) t (0, 0)) ∧ (∀ k, k ≠ g → (w.setCells g 1 (c8 f).toList).heap[k]? = w.heap[k]?) ∧ Below B w0 (w.setCells g 1 (c8 f).toList) := by
  obtain ⟨cur2, h3, h4, h5⟩ := setCells_row (c8 f).toList 1 w (bg b h0) hg (Nat.le_refl 9)
  obtain ⟨s1, s2, s3, s4⟩ := setCells_same g (c8 f).toList 1 w
  have e2 : cur2 = bg b f := Array.toList_inj.1 (h5.trans rfl)
  subst e2
  have hfar : ∀ k, k ≠ g → (w.setCells g 1 (c8 f).toList).heap[k]? = w.heap[k]? := fun k hk => setCells_far (c8 f).toList 1 k hk
  exact ⟨h3, hfar, s1.trans HB.os, s2.trans HB.tape, s3.trans HB.output, Nat.le_trans HB.size (Nat.le_of_eq s4.symm), fun k hk => (hfar k (by omega)).trans (HB.block k hk)⟩
theorem put8_facts (g : Nat) (t : TypeId) (cur : Array Value) (f : Nat → Nat) (hg : w.heap[g]? = some (.cells cur t (0, 0))) (hcur : cur.size = 8) {B : Nat} {w0 : World} (HB : Below B w0 w) (hle : B ≤ g) :
    (w.setCells g 0 (c8 f).toList).heap[g]? = some (.cells (c8 f) t (0, 0)) ∧ (∀ k, k ≠ g → (w.setCells g 0 (c8 f).toList).heap[k]? = w.heap[k]?) ∧ Below B w0 (w.setCells g 0 (c8 f).toList) := by
  have hfit : 0 + (c8 f).toList.length ≤ cur.size := by show 0 + 8 ≤ cur.size; omega
  obtain ⟨cur2, h3, h4, h5⟩ := setCells_row (c8 f).toList 0 w cur hg hfit
  obtain ⟨s1, s2, s3, s4⟩ := setCells_same g (c8 f).toList 0 w
  have e2 : cur2 = c8 f := by
    refine Array.toList_inj.1 (h5.trans ?_)
    have : cur.toList.drop (0 + (c8 f).toList.length) = [] := by
      rw [List.drop_eq_nil_iff]; show cur.toList.length ≤ 0 + 8; rw [Array.length_toList]; omega
    rw [this]; simp
  subst e2
  have hfar : ∀ k, k ≠ g → (w.setCells g 0 (c8 f).toList).heap[k]? = w.heap[k]? := fun k hk => setCells_far (c8 f).toList 0 k hk
  exact ⟨h3, hfar, s1.trans HB.os, s2.trans HB.tape, s3.trans HB.output, Nat.le_trans HB.size (Nat.le_of_eq s4.symm), fun k hk => (hfar k (by omega)).trans (HB.block k hk)⟩
theorem put9_facts (g : Nat) (t : TypeId) (cur : Array Value) (b : Bool) (f : Nat → Nat) (hg : w.heap[g]? = some (.cells cur t (0, 0))) (hcur : cur.size = 9) {B : Nat} {w0 : World} (HB : Below B w0 w) (hle : B ≤ g) :
    (w.setCells g 0 (bg b f).toList).heap[g]? = some (.cells (bg b f) t (0, 0)) ∧ (∀ k, k ≠ g → (w.setCells g 0 (bg b f).toList).heap[k]? = w.heap[k]?) ∧ Below B w0 (w.setCells g 0 (bg b f).toList) := by
  have hfit : 0 + (bg b f).toList.length ≤ cur.size := by show 0 + 9 ≤ cur.size; omega
  obtain ⟨cur2, h3, h4, h5⟩ := setCells_row (bg b f).toList 0 w cur hg hfit
  obtain ⟨s1, s2, s3, s4⟩ := setCells_same g (bg b f).toList 0 w
  have e2 : cur2 = bg b f := by
    refine Array.toList_inj.1 (h5.trans ?_)
    have : cur.toList.drop (0 + (bg b f).toList.length) = [] := by
      rw [List.drop_eq_nil_iff]; show cur.toList.length ≤ 0 + 9; rw [Array.length_toList]; omega
    rw [this]; simp
  subst e2
  have hfar : ∀ k, k ≠ g → (w.setCells g 0 (bg b f).toList).heap[k]? = w.heap[k]? := fun k hk => setCells_far (bg b f).toList 0 k hk
  exact ⟨h3, hfar, s1.trans HB.os, s2.trans HB.tape, s3.trans HB.output, Nat.le_trans HB.size (Nat.le_of_eq s4.symm), fun k hk => (hfar k (by omega)).trans (HB.block k hk)⟩
/-- a load of eight, of nine cells in a region that draws its order -/
theorem get_run {ty : TypeId} {x : Operand} (ho : o.op = .load ty x) (g off : Nat) (t : TypeId) (cs seg : Array Value) (d : TypeDesc) (hx : a.eval x = .pointer (some ⟨g, off, none⟩)) (hg : w.heap[g]? = some (.cells cs t (0, 0))) (hs : (cs.toList.drop off).take seg.size = seg.toList) (hu : P.underlying ty = some d) (hd : (match d with | .struct _ | .array _ _ => true | _ => false) = true) (hi : (P.info? ty).map (·.size) = some seg.size) : (execOp a.eval o).run P w = .ok (.value (.agg seg)) w := by
  have hl : (loadCells ⟨g, off, none⟩ seg.toList.length).run P w = .ok seg.toList.toArray w := run_loadCells_list (P := P) w ⟨g, off, none⟩ seg.toList (fun j v hv => by
    have hadd : (⟨g, off, none⟩ : Addr).add j = ⟨g, off + j, none⟩ := by unfold Addr.add; split <;> simp_all
    rw [hadd, blk_cell hg]
    have hj : j < seg.size := by have := (List.getElem?_eq_some_iff.1 hv).1; simpa using this
    rw [← hs, List.getElem?_take_of_lt hj, List.getElem?_drop, Array.getElem?_toList] at hv
    exact hv)
  cases hq : P.info? ty with
  | none => simp [hq] at hi
  | some i =>
    have hsz : i.size = seg.size := by simpa [hq] using hi
    have hagg : (isAgg ty).run P w = .ok true w := by
      unfold isAgg
      rw [Sem.run_bind, run_underlying hu w]
      cases d <;> simp_all
    have hlv : (loadVar ty ⟨g, off, none⟩).run P w = .ok (.agg seg) w := by
      simp only [Array.length_toList, Array.toArray_toList] at hl
      simp [loadVar, Sem.run_bind, hagg, sizeOf, typeInfo, hq, hsz, hl]
    unfold execOp
    simp only [ho, hx, Instr.loadAt, Instr.sureAddr, Sem.run_bind, Sem.run_pure, Result.andThen_ok, hlv]
end
theorem build9 {o : Oper} {a : Act} {w : World} {x y : Operand} (ho : o.op = .build 197 #[(0, x), (1, y)]) (b : Bool) (f : Nat → Nat) (hx : a.eval x = .bool b) (hy : a.eval y = .agg (c8 f)) : (execOp a.eval o).run Tryd.prog w = .ok (.value (.agg (bg b f))) w := by
  have hb : (Instr.build 197 #[(0, Value.bool b), (1, Value.agg (c8 f))]).run Tryd.prog w = .ok (.agg (bg b f)) w := run_build w _ _ _ (by kernel_rfl)
  unfold execOp
  simp only [ho, List.map_toArray, List.map_cons, List.map_nil, hx, hy, Sem.run_bind, hb, Result.andThen_ok, Sem.run_pure]
theorem build8 {o : Oper} {a : Act} {w : World} {y : Operand} (ho : o.op = .build 197 #[(1, y)]) (f : Nat → Nat) (hy : a.eval y = .agg (c8 f)) : (execOp a.eval o).run Tryd.prog w = .ok (.value (.agg (bg false f))) w := by
  have hb : (Instr.build 197 #[(1, Value.agg (c8 f))]).run Tryd.prog w = .ok (.agg (bg false f)) w := run_build w _ _ _ (by kernel_rfl)
  unfold execOp
  simp only [ho, List.map_toArray, List.map_cons, List.map_nil, hy, Sem.run_bind, hb, Result.andThen_ok, Sem.run_pure]
/-- a number as a value -/
def big (z : Int) : Array Value := bg (decide (z < 0)) (dn z.natAbs)
/-- the four lowest digits -/
abbrev b4 (b : Bool) (v0 v1 v2 v3 : Int) : Array Value := #[.bool b, .int .u64 v0, .int .u64 v1, .int .u64 v2, .int .u64 v3, .int .u64 0, .int .u64 0, .int .u64 0, .int .u64 0]
theorem b4_eq (b : Bool) (hi lo : Nat) (h1 : hi < 18446744073709551616) (h2 : lo < 18446744073709551616) : b4 b ((lo : Int) % 4294967296) ((lo : Int) / 4294967296) ((hi : Int) % 4294967296) ((hi : Int) / 4294967296) = bg b (dn (hi * 18446744073709551616 + lo)) := by
  have d0 : dn (hi * 18446744073709551616 + lo) 0 = lo % 4294967296 := by unfold dn P; omega
  have d1 : dn (hi * 18446744073709551616 + lo) 1 = lo / 4294967296 := by unfold dn P; omega
  have d2 : dn (hi * 18446744073709551616 + lo) 2 = hi % 4294967296 := by unfold dn P; omega
  have d3 : dn (hi * 18446744073709551616 + lo) 3 = hi / 4294967296 := by unfold dn P; omega
  have dz : ∀ j, 4 ≤ j → dn (hi * 18446744073709551616 + lo) j = 0 := fun j hj => by
    apply dn_zero_of_lt
    have := P_mono hj
    have e4 : P 4 = 340282366920938463463374607431768211456 := by decide
    omega
  unfold bg
  rw [d0, d1, d2, d3, dz 4 (by omega), dz 5 (by omega), dz 6 (by omega), dz 7 (by omega)]
  simp
set_option maxHeartbeats 2000000 in
set_option maxRecDepth 100000 in
theorem one_calls (w : World) : Calls Tryd.prog 154 #[] w fun e w' => e = .returned (.agg (c8 (dn 1))) ∧ Below w.heap.size w w' := by
  obtain ⟨w1, hw1⟩ : ∃ w1, w1 = ((w.alloc (.cells z8 195)).alloc (.cells o8 195)) := ⟨_, rfl⟩
  have k0 : w1.heap[w.heap.size]? = some (.cells z8 195 (0, 0)) := by rw [hw1]; exact blk_alloc (heap_alloc_new w _) _
  have k1 : w1.heap[w.heap.size + 1]? = some (.cells (c8 (dn 1)) 195 (0, 0)) := by rw [hw1, one_eq]; exact new1 w _ _
  have hb1 : Below w.heap.size w w1 := by rw [hw1]; exact ((Below.refl _ w).alloc (Nat.le_refl _) _).alloc (by simp) _
  obtain ⟨g0, hg0⟩ : ∃ g, g = w.heap.size := ⟨_, rfl⟩
  obtain ⟨g1, hg1⟩ : ∃ g, g = w.heap.size + 1 := ⟨_, rfl⟩
  rw [← hg0] at k0
  rw [← hg1] at k1
  have HX := Aside0.mk (And.intro k0 (And.intro k1 hb1))
  have HL := Lib.hid (show w.heap.size ≤ g0 by omega)
  have HW := Lib.hid hw1
  have H0 := Lib.hid hg0
  have H1 := Lib.hid hg1
  clear hw1 hg0 hg1 k0 k1 hb1
  go_enter Tryd.func154, Tryd.ntmps154
  go_upto_region 3 with (fail)
  rw [← HW.out, ← H1.out, ← H0.out]
  go_wp2_with (first | ((with_reducible refine gate_dst (N := 3) rfl ?_); refine get8 rfl rfl g1 195 (dn 1) _ rfl HX.out.2.1 Tryd.underlying195 rfl (by kernel_rfl) ?_) | ((with_reducible refine gate_store (t := 195) (p := 0) rfl ?_); refine put8 rfl rfl rfl g0 195 z8 (dn 1) rfl rfl HX.out.1 (by kernel_rfl) rfl HX.out.2.2 HL.out ?_; intro wz hz hfar hbz; have HZwz := Aside0.mk hz; have HFwz := Aside0.mk hfar; have HBwz := Aside0.mk hbz; clear hz hfar hbz))
  refine bodyPost_ret (results_single rfl (.cell g0 195 (c8 (dn 1)) (0, 0) _ rfl HZwz.out Tryd.underlying195 rfl (by kernel_rfl) .nil)) rfl ?_
  exact ⟨rfl, HBwz.out⟩
set_option maxHeartbeats 2000000 in
set_option maxRecDepth 100000 in
theorem zero_calls (n : Nat) (hn : n < P 8) (w : World) : Calls Tryd.prog 132 #[.agg (c8 (dn n))] w fun e w' => e = .returned (.bool (n == 0)) ∧ Below w.heap.size w w' := by
  obtain ⟨w1, hw1⟩ : ∃ w1, w1 = w.alloc (.cells (c8 (dn n)) 195) := ⟨_, rfl⟩
  have k0 : w1.heap[w.heap.size]? = some (.cells (c8 (dn n)) 195 (0, 0)) := by rw [hw1]; exact heap_alloc_new w _
  have hb1 : Below w.heap.size w w1 := by rw [hw1]; exact (Below.refl _ w).alloc (Nat.le_refl _) _
  obtain ⟨g0, hg0⟩ : ∃ g, g = w.heap.size := ⟨_, rfl⟩
  rw [← hg0] at k0
  have HX := Aside0.mk (And.intro k0 hb1)
  have HW := Lib.hid hw1
  have H0 := Lib.hid hg0
  have he := fun W : World => eqz n hn W
  clear hw1 hg0 k0 hb1 hn
  go_enter Tryd.func132, Tryd.ntmps132
  go_upto_region 1 with (fail)
  rw [← HW.out, ← H0.out]
  go_wp2_with (first | ((with_reducible refine gate_dst (N := 3) rfl ?_); refine get8 rfl rfl g0 195 (dn n) _ rfl HX.out.1 Tryd.underlying195 rfl (by kernel_rfl) ?_))
  go_ret
  exact ⟨rfl, HX.out.2⟩
set_option maxHeartbeats 2000000 in
set_option maxRecDepth 100000 in
theorem from_pos (h l : Int) (h0 : -9223372036854775808 ≤ h) (h1 : h ≤ 9223372036854775807) (l0 : 0 ≤ l) (l1 : l ≤ 18446744073709551615) (hs : 0 ≤ h) (w : World) : Calls Tryd.prog 153 #[.agg #[.int .i64 h, .int .u64 l]] w fun e w' => e = .returned (.agg (big (h * 18446744073709551616 + l))) ∧ Below w.heap.size w w' := by
  obtain ⟨w1, hw1⟩ : ∃ w1, w1 = ((w.alloc (.cells #[.int .i64 h, .int .u64 l] 243)).alloc (.cells (zb false) 197)) := ⟨_, rfl⟩
  have k1 : w1.heap[w.heap.size]? = some (.cells #[.int .i64 h, .int .u64 l] 243 (0, 0)) := by rw [hw1]; exact blk_alloc (heap_alloc_new w _) _
  have k2 : w1.heap[w.heap.size + 1]? = some (.cells (zb false) 197 (0, 0)) := by rw [hw1]; exact new1 w _ _
  have hb1 : Below w.heap.size w w1 := by rw [hw1]; exact ((Below.refl _ w).alloc (Nat.le_refl _) _).alloc (by simp) _
  have hn1 : w1.heap.size = w.heap.size + 1 + 1 := by rw [hw1]; simp
  obtain ⟨g1, hg1⟩ : ∃ g, g = w.heap.size := ⟨_, rfl⟩
  obtain ⟨g2, hg2⟩ : ∃ g, g = w.heap.size + 1 := ⟨_, rfl⟩
  obtain ⟨g3, hg3⟩ : ∃ g, g = w1.heap.size := ⟨_, rfl⟩
  rw [← hg1] at k1
  rw [← hg2] at k2
  have HX := Aside0.mk (And.intro k1 (And.intro k2 hb1))
  have HL2 := Lib.hid (show w.heap.size ≤ g2 by omega)
  have HL3 := Lib.hid (show w.heap.size ≤ g3 by omega)
  have HD := Lib.hid (show g1 ≠ g3 ∧ g2 ≠ g3 ∧ g2 ≠ g1 by omega)
  have HW := Lib.hid hw1
  have H1 := Lib.hid hg1
  have H2 := Lib.hid hg2
  have H3 := Lib.hid hg3
  have cx0 : w1.cell? ⟨g1, 0, none⟩ = some (.int .i64 h) := (blk_cell k1 0).trans rfl
  have cx1 : w1.cell? ⟨g1, 1, none⟩ = some (.int .u64 l) := (blk_cell k1 1).trans rfl
  have fx0 := blk_frozen k1 0
  have fx1 := blk_frozen k1 1
  clear hw1 hg1 hg2 hg3 k1 k2 hb1 hn1
  go_enter Tryd.func153, Tryd.ntmps153
  have hsd := decide_eq_false (show ¬ h < 0 by omega)
  go_upto_region 1 with (fail)
  rw [← HW.out, ← H2.out, ← H1.out]
  go_upto_region 2 with (((with_reducible refine gate_store (t := 197) (p := 3) rfl ?_); refine put9z rfl rfl rfl w1.heap.size 197 (zb false) (false) rfl rfl (heap_alloc_new w1 _) (by kernel_rfl) rfl (HX.out.2.2.alloc HX.out.2.2.size _) HX.out.2.2.size ?_; intro wz hz hfar hbz; rw [← H3.out] at hz hfar; have HZwz := Aside0.mk hz; have HFwz := Aside0.mk hfar; have HBwz := Aside0.mk hbz; clear hz hfar hbz))
  rw [← H3.out]
  have kx : wz.heap[g1]? = some (.cells #[.int .i64 h, .int .u64 l] 243 (0, 0)) := (HFwz.out g1 HD.out.1).trans (blk_alloc HX.out.1 _)
  have ky : wz.heap[g2]? = some (.cells (zb false) 197 (0, 0)) := (HFwz.out g2 HD.out.2.1).trans (blk_alloc HX.out.2.1 _)
  clear cx0 cx1 fx0 fx1 HFwz
  have HK := Aside0.mk (And.intro kx ky)
  have cx0 : wz.cell? ⟨g1, 0, none⟩ = some (.int .i64 h) := (blk_cell kx 0).trans rfl
  have cx1 : wz.cell? ⟨g1, 1, none⟩ = some (.int .u64 l) := (blk_cell kx 1).trans rfl
  have fx0 := blk_frozen kx 0
  have fx1 := blk_frozen kx 1
  have hz0 : wz.heap[g3]? = some (.cells (zb false) 197 (0, 0)) := by rw [zb_eq]; exact HZwz.out
  have cz0 : wz.cell? ⟨g3, 0, none⟩ = some (.bool false) := (blk_cell hz0 0).trans rfl
  have cz1 : wz.cell? ⟨g3, 1, none⟩ = some (.int .u64 0) := (blk_cell hz0 1).trans rfl
  have cz2 : wz.cell? ⟨g3, 2, none⟩ = some (.int .u64 0) := (blk_cell hz0 2).trans rfl
  have cz3 : wz.cell? ⟨g3, 3, none⟩ = some (.int .u64 0) := (blk_cell hz0 3).trans rfl
  have cz4 : wz.cell? ⟨g3, 4, none⟩ = some (.int .u64 0) := (blk_cell hz0 4).trans rfl
  have fz0 := blk_frozen hz0 0
  have fz1 := blk_frozen hz0 1
  have fz2 := blk_frozen hz0 2
  have fz3 := blk_frozen hz0 3
  have fz4 := blk_frozen hz0 4
  have HZ0 := Aside0.mk hz0
  clear kx ky hz0
  go_region
  go_upto_region 6 with (fail)
  refine name_w (fun W4 hW4 => ?_)
  have hk : W4.heap[g3]? = some (.cells (b4 false (l % 4294967296) (l / 4294967296) (h % 4294967296) (h / 4294967296)) 197 (0, 0)) := by
    rw [hW4]
    exact blk_put (blk_put (blk_put (blk_put HZ0.out 1 _ rfl) 2 _ rfl) 3 _ rfl) 4 _ rfl
  have h4far : ∀ k, k ≠ g3 → W4.heap[k]? = wz.heap[k]? := fun k hk => by
    rw [hW4]
    exact (Below.heap_setCell _ ⟨g3, 4, none⟩ _ k hk).trans ((Below.heap_setCell _ ⟨g3, 3, none⟩ _ k hk).trans ((Below.heap_setCell _ ⟨g3, 2, none⟩ _ k hk).trans (Below.heap_setCell _ ⟨g3, 1, none⟩ _ k hk)))
  have hb4 : Below w.heap.size w W4 := by
    rw [hW4]
    exact (((HBwz.out.drew.setCell HL3.out _).setCell HL3.out _).setCell HL3.out _).setCell HL3.out _
  have ky4 := (h4far g2 HD.out.2.1).trans HK.out.2
  obtain ⟨m, hm⟩ : ∃ m : Nat, m = h.toNat * 18446744073709551616 + l.toNat := ⟨_, rfl⟩
  have hk' : W4.heap[g3]? = some (.cells (bg false (dn m)) 197 (0, 0)) := by
    rw [hk, hm, ← b4_eq false _ _ (by omega) (by omega), show ((h.toNat : Nat) : Int) = h by omega, show ((l.toNat : Nat) : Int) = l by omega]
  have c40 : W4.cell? ⟨g3, 0, none⟩ = some (.bool false) := (blk_cell hk' 0).trans rfl
  have f40 := blk_frozen hk' 0
  have HQ := Aside0.mk (And.intro hk' (And.intro ky4 hb4))
  have HM := Lib.hid hm
  clear hW4 hk h4far hb4 ky4 hk' cx0 cx1 fx0 fx1 cz0 cz1 cz2 cz3 cz4 fz0 fz1 fz2 fz3 fz4 HZ0 HK HZwz HBwz HX hm
  go_wp2_with (first | ((with_reducible refine gate_dst (N := 44) rfl ?_); refine get9 rfl rfl g3 197 (false) (dn m) _ rfl HQ.out.1 Tryd.underlying197 rfl (by kernel_rfl) ?_) | ((with_reducible refine gate_store (t := 197) (p := 2) rfl ?_); refine put9 rfl rfl rfl g2 197 (zb false) (false) (dn m) rfl rfl HQ.out.2.1 (by kernel_rfl) rfl HQ.out.2.2 HL2.out ?_; intro wy hz hfar hbz; have HZwy := Aside0.mk hz; have HFwy := Aside0.mk hfar; have HBwy := Aside0.mk hbz; clear hz hfar hbz))
  have hbig : big (h * 18446744073709551616 + l) = bg false (dn m) := by
    unfold big
    rw [decide_eq_false (show ¬ h * 18446744073709551616 + l < 0 by omega), show (h * 18446744073709551616 + l).natAbs = m by rw [HM.out]; omega]
  refine bodyPost_ret (results_single rfl (.cell g2 197 (bg false (dn m)) (0, 0) _ rfl HZwy.out Tryd.underlying197 rfl (by kernel_rfl) .nil)) rfl ?_
  exact ⟨by rw [hbig], HBwy.out⟩
set_option maxHeartbeats 2000000 in
set_option maxRecDepth 100000 in
theorem from_neg (h l : Int) (h0 : -9223372036854775808 ≤ h) (h1 : h ≤ 9223372036854775807) (l0 : 0 ≤ l) (l1 : l ≤ 18446744073709551615) (hs : h < 0) (w : World) : Calls Tryd.prog 153 #[.agg #[.int .i64 h, .int .u64 l]] w fun e w' => e = .returned (.agg (big (h * 18446744073709551616 + l))) ∧ Below w.heap.size w w' := by
  obtain ⟨w1, hw1⟩ : ∃ w1, w1 = ((w.alloc (.cells #[.int .i64 h, .int .u64 l] 243)).alloc (.cells (zb false) 197)) := ⟨_, rfl⟩
  have k1 : w1.heap[w.heap.size]? = some (.cells #[.int .i64 h, .int .u64 l] 243 (0, 0)) := by rw [hw1]; exact blk_alloc (heap_alloc_new w _) _
  have k2 : w1.heap[w.heap.size + 1]? = some (.cells (zb false) 197 (0, 0)) := by rw [hw1]; exact new1 w _ _
  have hb1 : Below w.heap.size w w1 := by rw [hw1]; exact ((Below.refl _ w).alloc (Nat.le_refl _) _).alloc (by simp) _
  have hn1 : w1.heap.size = w.heap.size + 1 + 1 := by rw [hw1]; simp
  obtain ⟨g1, hg1⟩ : ∃ g, g = w.heap.size := ⟨_, rfl⟩
  obtain ⟨g2, hg2⟩ : ∃ g, g = w.heap.size + 1 := ⟨_, rfl⟩
  obtain ⟨g3, hg3⟩ : ∃ g, g = w1.heap.size := ⟨_, rfl⟩
  rw [← hg1] at k1
  rw [← hg2] at k2
  have HX := Aside0.mk (And.intro k1 (And.intro k2 hb1))
  have HL2 := Lib.hid (show w.heap.size ≤ g2 by omega)
  have HL3 := Lib.hid (show w.heap.size ≤ g3 by omega)
  have HD := Lib.hid (show g1 ≠ g3 ∧ g2 ≠ g3 ∧ g2 ≠ g1 by omega)
  have HW := Lib.hid hw1
  have H1 := Lib.hid hg1
  have H2 := Lib.hid hg2
  have H3 := Lib.hid hg3
  have cx0 : w1.cell? ⟨g1, 0, none⟩ = some (.int .i64 h) := (blk_cell k1 0).trans rfl
  have cx1 : w1.cell? ⟨g1, 1, none⟩ = some (.int .u64 l) := (blk_cell k1 1).trans rfl
  have fx0 := blk_frozen k1 0
  have fx1 := blk_frozen k1 1
  clear hw1 hg1 hg2 hg3 k1 k2 hb1 hn1
  go_enter Tryd.func153, Tryd.ntmps153
  have hsd := decide_eq_true hs
  go_upto_region 1 with (fail)
  rw [← HW.out, ← H2.out, ← H1.out]
  go_upto_region 2 with (((with_reducible refine gate_store (t := 197) (p := 3) rfl ?_); refine put9z rfl rfl rfl w1.heap.size 197 (zb false) (true) rfl rfl (heap_alloc_new w1 _) (by kernel_rfl) rfl (HX.out.2.2.alloc HX.out.2.2.size _) HX.out.2.2.size ?_; intro wz hz hfar hbz; rw [← H3.out] at hz hfar; have HZwz := Aside0.mk hz; have HFwz := Aside0.mk hfar; have HBwz := Aside0.mk hbz; clear hz hfar hbz))
  rw [← H3.out]
  have kx : wz.heap[g1]? = some (.cells #[.int .i64 h, .int .u64 l] 243 (0, 0)) := (HFwz.out g1 HD.out.1).trans (blk_alloc HX.out.1 _)
  have ky : wz.heap[g2]? = some (.cells (zb false) 197 (0, 0)) := (HFwz.out g2 HD.out.2.1).trans (blk_alloc HX.out.2.1 _)
  clear cx0 cx1 fx0 fx1 HFwz
  have HK := Aside0.mk (And.intro kx ky)
  have cx0 : wz.cell? ⟨g1, 0, none⟩ = some (.int .i64 h) := (blk_cell kx 0).trans rfl
  have cx1 : wz.cell? ⟨g1, 1, none⟩ = some (.int .u64 l) := (blk_cell kx 1).trans rfl
  have fx0 := blk_frozen kx 0
  have fx1 := blk_frozen kx 1
  have hz0 : wz.heap[g3]? = some (.cells (zb true) 197 (0, 0)) := by rw [zb_eq]; exact HZwz.out
  have cz0 : wz.cell? ⟨g3, 0, none⟩ = some (.bool true) := (blk_cell hz0 0).trans rfl
  have cz1 : wz.cell? ⟨g3, 1, none⟩ = some (.int .u64 0) := (blk_cell hz0 1).trans rfl
  have cz2 : wz.cell? ⟨g3, 2, none⟩ = some (.int .u64 0) := (blk_cell hz0 2).trans rfl
  have cz3 : wz.cell? ⟨g3, 3, none⟩ = some (.int .u64 0) := (blk_cell hz0 3).trans rfl
  have cz4 : wz.cell? ⟨g3, 4, none⟩ = some (.int .u64 0) := (blk_cell hz0 4).trans rfl
  have fz0 := blk_frozen hz0 0
  have fz1 := blk_frozen hz0 1
  have fz2 := blk_frozen hz0 2
  have fz3 := blk_frozen hz0 3
  have fz4 := blk_frozen hz0 4
  have HZ0 := Aside0.mk hz0
  clear kx ky hz0
  obtain ⟨u, hu⟩ : ∃ u, u = h + 18446744073709551616 := ⟨_, rfl⟩
  have hwu : IntKind.u64.wrap h = u := by rw [IntKind.wrap_u64]; omega
  have u0 : 0 ≤ u := by omega
  have u1 : u ≤ 18446744073709551615 := by omega
  have HU := Lib.hid hu
  clear hu
  go_region
  go_upto_region 6 with (fail)
  refine name_w (fun W4 hW4 => ?_)
  have hk : W4.heap[g3]? = some (.cells (b4 true ((18446744073709551615 - l) % 4294967296) ((18446744073709551615 - l) / 4294967296) ((18446744073709551615 - u) % 4294967296) ((18446744073709551615 - u) / 4294967296)) 197 (0, 0)) := by
    rw [hW4]
    exact blk_put (blk_put (blk_put (blk_put HZ0.out 1 _ rfl) 2 _ rfl) 3 _ rfl) 4 _ rfl
  have h4far : ∀ k, k ≠ g3 → W4.heap[k]? = wz.heap[k]? := fun k hk => by
    rw [hW4]
    exact (Below.heap_setCell _ ⟨g3, 4, none⟩ _ k hk).trans ((Below.heap_setCell _ ⟨g3, 3, none⟩ _ k hk).trans ((Below.heap_setCell _ ⟨g3, 2, none⟩ _ k hk).trans (Below.heap_setCell _ ⟨g3, 1, none⟩ _ k hk)))
  have hb4 : Below w.heap.size w W4 := by
    rw [hW4]
    exact (((HBwz.out.drew.setCell HL3.out _).setCell HL3.out _).setCell HL3.out _).setCell HL3.out _
  have ky4 := (h4far g2 HD.out.2.1).trans HK.out.2
  obtain ⟨m, hm⟩ : ∃ m : Nat, m = (18446744073709551615 - u).toNat * 18446744073709551616 + (18446744073709551615 - l).toNat := ⟨_, rfl⟩
  have hk' : W4.heap[g3]? = some (.cells (bg true (dn m)) 197 (0, 0)) := by
    rw [hk, hm, ← b4_eq true _ _ (by omega) (by omega), show (((18446744073709551615 - u).toNat : Nat) : Int) = (18446744073709551615 - u) by omega, show (((18446744073709551615 - l).toNat : Nat) : Int) = (18446744073709551615 - l) by omega]
  have c40 : W4.cell? ⟨g3, 0, none⟩ = some (.bool true) := (blk_cell hk' 0).trans rfl
  have f40 := blk_frozen hk' 0
  have HQ := Aside0.mk (And.intro hk' (And.intro ky4 hb4))
  have HM := Lib.hid hm
  clear hW4 hk h4far hb4 ky4 hk' cx0 cx1 fx0 fx1 cz0 cz1 cz2 cz3 cz4 fz0 fz1 fz2 fz3 fz4 HZ0 HK HZwz HBwz HX hm
  go_upto_region 7 with (fail)
  refine start_ (n := 6) (S := fun w' => w'.heap[g3]? = some (.cells (bg true (dn m)) 197 (0, 0)) ∧ w'.heap[g2]? = some (.cells (zb false) 197 (0, 0)) ∧ Below w.heap.size w w') (ds := [5]) #[false, false, false, false, false, false] (by kernel_rfl) rfl rfl ⟨HQ.out.1, HQ.out.2.1, HQ.out.2.2.drew⟩ (fun hHeld => ?_)
  refine pure_ (i := 0) (N := some 39) (v := ?_) (a' := ?_) #[true, false, false, false, false, false] rfl rfl (by kernel_rfl) (fun _ _ _ h => h) (Or.inl ⟨by rfl, ?_⟩) ?_ ?_
  rotate_left
  · intro w'
    go_simp
    with_reducible rfl
  rotate_left
  · simp only [Act.put, List.setIfInBounds_toArray, List.set_cons_zero, List.set_cons_succ, i64_w, i32_w]
    rfl
  refine take_ (i := 1) (N := some 40) (v := ?_) (a' := ?_) #[true, true, false, false, false, false] rfl rfl (by kernel_rfl) (fun _ _ _ h => h) (Or.inl ⟨by rfl, ?_⟩) hHeld ?_ ?_
  rotate_left
  · rintro w' ⟨s0, s1, s2⟩
    refine get_run (x := Operand.tmp 39) ?_ g3 1 197 (bg true (dn m)) (c8 (dn m)) _ ?_ s0 rfl Tryd.underlying195 rfl ?_
    · rfl
    · rfl
    · kernel_rfl
  rotate_left
  · simp only [Act.put, List.setIfInBounds_toArray, List.set_cons_zero, List.set_cons_succ, i64_w, i32_w]
    rfl
  refine one_ (i := 2) (N := some 41) #[true, true, true, false, false, false] rfl rfl (by kernel_rfl) (by decide) (fun K hK => ?_)
  refine goes_ Tryd.func154 (by kernel_rfl) rfl #[] (by rfl) rfl rfl (by simp only [List.map_toArray, List.map_cons, List.map_nil]) ?_
  with_reducible refine (one_calls _).mono ?_
  rintro e w3 ⟨rfl, hb3⟩
  refine ⟨_, rfl, ?_⟩
  refine hK.out _ _ ⟨(blk_below hHeld.1 hb3), (blk_below hHeld.2.1 hb3), (hHeld.2.2.trans (hb3.mono hHeld.2.2.size))⟩ (fun hHeld => ?_)
  clear hK K
  refine norm_ (a' := ?_) ?_ ?_
  rotate_left
  · show Act.put _ (some 41) _ = _
    simp only [Act.put, List.setIfInBounds_toArray, List.set_cons_zero, List.set_cons_succ, i64_w, i32_w]
    rfl
  refine one_ (i := 3) (N := some 42) #[true, true, true, true, false, false] rfl rfl (by kernel_rfl) (by decide) (fun K hK => ?_)
  refine goes_ Tryd.func163 (by kernel_rfl) rfl #[.agg (c8 (dn m)), .agg (c8 (dn 1))] (by rfl) rfl rfl (by simp only [List.map_toArray, List.map_cons, List.map_nil]; rfl) ?_
  with_reducible refine (plus_calls m 1 _).mono ?_
  rintro e w3 ⟨rfl, hb3⟩
  refine ⟨_, rfl, ?_⟩
  refine hK.out _ _ ⟨(blk_below hHeld.1 hb3), (blk_below hHeld.2.1 hb3), (hHeld.2.2.trans (hb3.mono hHeld.2.2.size))⟩ (fun hHeld => ?_)
  clear hK K
  refine norm_ (a' := ?_) ?_ ?_
  rotate_left
  · show Act.put _ (some 42) _ = _
    simp only [Act.put, List.setIfInBounds_toArray, List.set_cons_zero, List.set_cons_succ, i64_w, i32_w]
    rfl
  refine pure_ (i := 4) (N := some 43) (v := ?_) (a' := ?_) #[true, true, true, true, true, false] rfl rfl (by kernel_rfl) (fun _ _ _ h => h) (Or.inl ⟨by rfl, ?_⟩) ?_ ?_
  rotate_left
  · intro w'
    go_simp
    with_reducible rfl
  rotate_left
  · simp only [Act.put, List.setIfInBounds_toArray, List.set_cons_zero, List.set_cons_succ, i64_w, i32_w]
    rfl
  refine last_ (i := 5) (N := none) #[true, true, true, true, true, true] rfl rfl (by kernel_rfl) (by decide) (fun K hK => ?_)
  refine skip_ (w1 := (w3.setCells g3 1 (c8 (dn (m + 1))).toList)) (by rfl) rfl (rowput_run rfl g3 1 197 (bg (true) (dn m)) _ (c8 (dn (m + 1))).toList rfl rfl rfl hHeld.1 (by kernel_rfl) (Nat.le_refl 9) (c8_one _) rfl) ?_
  have pf9 := put81_facts (w := w3) g3 197 (true) (dn m) (dn (m + 1)) hHeld.1 hHeld.2.2 HL3.out
  generalize (w3.setCells g3 1 (c8 (dn (m + 1))).toList) = w9 at pf9 ⊢
  obtain ⟨hk9, hfar9, hb9⟩ := pf9
  refine hK.out _ _ ?_
  clear hK K
  refine done_ (by kernel_rfl) ?_
  have HQ2 := Aside0.mk (And.intro hk9 (And.intro ((hfar9 g2 HD.out.2.1).trans hHeld.2.1) hb9))
  clear hk9 hfar9 hb9 HQ
  go_wp2_with (first | ((with_reducible refine gate_dst (N := 44) rfl ?_); refine get9 rfl rfl g3 197 (true) (dn (m + 1)) _ rfl HQ2.out.1 Tryd.underlying197 rfl (by kernel_rfl) ?_) | ((with_reducible refine gate_store (t := 197) (p := 2) rfl ?_); refine put9 rfl rfl rfl g2 197 (zb false) (true) (dn (m + 1)) rfl rfl HQ2.out.2.1 (by kernel_rfl) rfl HQ2.out.2.2 HL2.out ?_; intro wy hz hfar hbz; have HZwy := Aside0.mk hz; have HFwy := Aside0.mk hfar; have HBwy := Aside0.mk hbz; clear hz hfar hbz))
  have hbig : big (h * 18446744073709551616 + l) = bg true (dn (m + 1)) := by
    unfold big
    rw [decide_eq_true (show h * 18446744073709551616 + l < 0 by omega), show (h * 18446744073709551616 + l).natAbs = m + 1 by rw [HM.out, HU.out]; omega]
  refine bodyPost_ret (results_single rfl (.cell g2 197 (bg true (dn (m + 1))) (0, 0) _ rfl HZwy.out Tryd.underlying197 rfl (by kernel_rfl) .nil)) rfl ?_
  exact ⟨by rw [hbig], HBwy.out⟩
theorem from_calls (h l : Int) (h0 : -9223372036854775808 ≤ h) (h1 : h ≤ 9223372036854775807) (l0 : 0 ≤ l) (l1 : l ≤ 18446744073709551615) (w : World) : Calls Tryd.prog 153 #[.agg #[.int .i64 h, .int .u64 l]] w fun e w' => e = .returned (.agg (big (h * 18446744073709551616 + l))) ∧ Below w.heap.size w w' := by
  rcases Int.lt_or_le h 0 with hs | hs
  · exact from_neg h l h0 h1 l0 l1 hs w
  · exact from_pos h l h0 h1 l0 l1 hs w
end Go.Proofs.YtpihgdehgkclmaaDoor.Big
