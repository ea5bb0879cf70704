/-
  Whole rows of a variable in memory, loaded and stored at once; an array's element at a place that is not known.
-/
import Derived.Test.YtcpbfckmngbgdaaDoorK
import Derived.Test.YtcpbfckmngbgdaaDoorWWords
import Derived.Laws.StructEq
namespace Go.Proofs.YtcpbfckmngbgdaaDoor
open Go.RowKit Go.Proofs.YtcpbfckmngbgdaaDoorW.PrintWords
set_option linter.unusedVariables false
set_option linter.unusedSimpArgs false

theorem all_range_eqI : ∀ (xs ys : List Int), xs.length = ys.length → ((List.range xs.length).all fun i => xs.getD i 0 == ys.getD i 0) = (xs == ys)
  | [], [], _ => rfl
  | x :: xs, y :: ys, h => by
    have ih := all_range_eqI xs ys (by simpa using h)
    rw [List.length_cons, List.range_succ_eq_map, List.all_cons, List.all_map]
    simp only [List.getD_cons_zero, Function.comp_def, List.getD_cons_succ, ih]
    simp [List.cons_beq_cons]
  | [], _ :: _, h => by simp at h
  | _ :: _, [], h => by simp at h
theorem run_equalIn_ints {P : Program} (w : World) (d : Nat) (t e : TypeId) (n : Nat) (k : IntKind) (ht : P.underlying t = some (.array n e)) (he : P.underlying e = some (.int k)) (hsz : ∀ w, (sizeOf e).run P w = .ok 1 w)
    (xs ys : List Int) (hx : xs.length = n) (hy : ys.length = n) :
    (Op.equalIn (d + 2) t (.agg (xs.map (Value.int k)).toArray) (.agg (ys.map (Value.int k)).toArray)).run P w = .ok (xs == ys) w := by
  rw [← all_range_eqI xs ys (hx.trans hy.symm), hx, List.range_eq_range', Op.equalIn]
  simp only [Sem.run_bind, run_underlying ht, Result.andThen_ok, hsz, Std.Legacy.Range.forIn_eq_forIn_range', Std.Legacy.Range.size, Nat.sub_zero, Nat.add_sub_cancel, Nat.div_one]
  have hl : ∀ i ∈ List.range' 0 n 1, i < n := fun i hi => by simpa using (List.mem_range'_1.1 hi).2
  generalize List.range' 0 n 1 = l at hl ⊢
  induction l with
  | nil => simp
  | cons i l ih =>
    have hi : i < n := hl i (by simp)
    have px : (part e (xs.map (Value.int k)).toArray (i * 1)).run P w = .ok (.int k (xs.getD i 0)) w := by
      simp [part, isAgg, run_underlying he, List.getD, List.getElem?_eq_getElem (show i < xs.length by omega)]
    have py : (part e (ys.map (Value.int k)).toArray (i * 1)).run P w = .ok (.int k (ys.getD i 0)) w := by
      simp [part, isAgg, run_underlying he, List.getD, List.getElem?_eq_getElem (show i < ys.length by omega)]
    have pe : (Op.equalIn (d + 1) e (.int k (xs.getD i 0)) (.int k (ys.getD i 0))).run P w = .ok (xs.getD i 0 == ys.getD i 0) w := by
      rw [run_equalIn_int w d e k k _ _ he]
    simp only [List.forIn_cons, Sem.run_bind, px, py, pe, Result.andThen_ok, List.all_cons]
    cases hb : (xs.getD i 0 == ys.getD i 0)
    · simp
    · simp only [Bool.not_true, Bool.false_eq_true, if_false, Sem.run_pure, Result.andThen_ok, Bool.true_and]
      exact ih fun j hj => hl j (by simp [hj])
theorem named_some {α β : Type} {x : α} {f : α → Option β} {r : β} (h : (some x).bind f = some r) : ∃ n, x = n ∧ f n = some r := ⟨x, rfl, h⟩
theorem pick_cell {w : World} {g o : Nat} {t : TypeId} {cs : Array Value} {k : IntKind} {l : List Int} {j N : Int} (h : w.heap[g]? = some (.cells cs t (0, 0))) (h0 : 0 ≤ j) (h1 : j < N) (hN : (l.length : Int) = N) (hc : (cs.toList.drop o).take l.length = l.map (Value.int k)) : w.cell? ⟨g, o + j.toNat, none⟩ = some (.int k (rd l j)) := by
  have hn : j.toNat < l.length := by omega
  have e1 : ((cs.toList.drop o).take l.length)[j.toNat]? = (l.map (Value.int k))[j.toNat]? := by rw [hc]
  rw [List.getElem?_take_of_lt hn, List.getElem?_drop, List.getElem?_map, Array.getElem?_toList] at e1
  rw [blk_cell h, e1]; unfold rd; simp [List.getD_eq_getElem?_getD, List.getElem?_eq_getElem hn]
theorem pick_cell0 {w : World} {g : Nat} {t : TypeId} {cs : Array Value} {k : IntKind} {l : List Int} {j N : Int} (h : w.heap[g]? = some (.cells cs t (0, 0))) (h0 : 0 ≤ j) (h1 : j < N) (hN : (l.length : Int) = N) (hc : (cs.toList.drop 0).take l.length = l.map (Value.int k)) : w.cell? ⟨g, j.toNat, none⟩ = some (.int k (rd l j)) := by
  have := pick_cell (o := 0) h h0 h1 hN hc; rwa [Nat.zero_add] at this
theorem rowget_event {P : Program} {ops : Array Oper} {rest : List Oper} {o : Oper} {a : Act} {w : World} {Q : Exit → Act → World → Prop} (hgd : o.guard = none) {ty : TypeId} {x : Operand} (ho : o.op = .load ty x) (g off : Nat) (t : TypeId) (cs seg : Array Value) (d : TypeDesc) (hx : a.eval x = .pointer (some ⟨g, off, none⟩)) (hg : w.heap[g]? = some (.cells cs t (0, 0))) (hs : (cs.toList.drop off).take seg.size = seg.toList) (hu : P.underlying ty = some d) (hd : (match d with | .struct _ | .array _ _ => true | _ => false) = true) (hi : (P.info? ty).map (·.size) = some seg.size) (h : wpList P ops Q rest (a.put o.dst (.agg seg)) w) : wpList P ops Q (o :: rest) a w := by
  refine wpList_plain hgd fun K hK => ?_
  have hl : (loadCells ⟨g, off, none⟩ seg.toList.length).run P w = .ok seg.toList.toArray w := run_loadCells_list (P := P) w ⟨g, off, none⟩ seg.toList (fun j v hv => by
    have hadd : (⟨g, off, none⟩ : Addr).add j = ⟨g, off + j, none⟩ := by unfold Addr.add; split <;> simp_all
    rw [hadd, blk_cell hg]
    have hj : j < seg.size := by have := (List.getElem?_eq_some_iff.1 hv).1; simpa using this
    rw [← hs, List.getElem?_take_of_lt hj, List.getElem?_drop, Array.getElem?_toList] at hv
    exact hv)
  cases hq : P.info? ty with
  | none => simp [hq] at hi
  | some i =>
    have hsz : i.size = seg.size := by simpa [hq] using hi
    have hagg : (isAgg ty).run P w = .ok true w := by
      unfold isAgg
      rw [Sem.run_bind, run_underlying hu w]
      cases d <;> simp_all
    have hlv : (loadVar ty ⟨g, off, none⟩).run P w = .ok (.agg seg) w := by
      simp only [Array.length_toList, Array.toArray_toList] at hl
      simp [loadVar, Sem.run_bind, hagg, sizeOf, typeInfo, hq, hsz, hl]
    unfold Oper.wp execOp
    simp only [ho, hx, Instr.loadAt, Instr.sureAddr, Sem.run_bind, Sem.run_pure, Result.andThen_ok, hlv]
    exact hK _ _ h
theorem s2a_event {P : Program} {ops : Array Oper} {rest : List Oper} {o : Oper} {a : Act} {w : World} {Q : Exit → Act → World → Prop} (hgd : o.guard = none) {ty : TypeId} {x : Operand} (ho : o.op = .sliceToArrayPointer ty x) (N : Nat) (e : TypeId) (hu : P.underlying ty = some (.array N e)) (ad : Option Addr) (n c : Nat) (hx : a.eval x = .slice ad n c) (hn : N ≤ n) (h : wpList P ops Q rest (a.put o.dst (.pointer ad)) w) : wpList P ops Q (o :: rest) a w := by
  refine wpList_plain hgd fun K hK => ?_
  have hr : (Instr.arrayAt ty (.slice ad n c)).run P w = .ok (.pointer ad) w := by
    unfold Instr.arrayAt
    rw [Sem.run_bind, run_underlying hu w]
    simp [Result.andThen_ok, Nat.not_lt.2 hn]
  unfold Oper.wp execOp
  simp only [ho, hx, Sem.run_bind, Sem.run_pure, Result.andThen_ok, hr]
  exact hK _ _ h
theorem rowget_at_event {P : Program} {ops : Array Oper} {rest : List Oper} {o : Oper} {a : Act} {w : World} {Q : Exit → Act → World → Prop} (hgd : o.guard = none) {ty : TypeId} {x : Operand} (ho : o.op = .load ty x) (ad : Addr) (seg : Array Value) (d : TypeDesc) (hx : a.eval x = .pointer (some ad)) (hs : ∀ j v, seg.toList[j]? = some v → w.cell? (ad.add j) = some v) (hu : P.underlying ty = some d) (hd : (match d with | .struct _ | .array _ _ => true | _ => false) = true) (hi : (P.info? ty).map (·.size) = some seg.size) (h : wpList P ops Q rest (a.put o.dst (.agg seg)) w) : wpList P ops Q (o :: rest) a w := by
  refine wpList_plain hgd fun K hK => ?_
  have hl : (loadCells ad seg.toList.length).run P w = .ok seg.toList.toArray w := run_loadCells_list (P := P) w ad seg.toList hs
  cases hq : P.info? ty with
  | none => simp [hq] at hi
  | some i =>
    have hsz : i.size = seg.size := by simpa [hq] using hi
    have hagg : (isAgg ty).run P w = .ok true w := by
      unfold isAgg
      rw [Sem.run_bind, run_underlying hu w]
      cases d <;> simp_all
    have hlv : (loadVar ty ad).run P w = .ok (.agg seg) w := by
      simp only [Array.length_toList, Array.toArray_toList] at hl
      simp [loadVar, Sem.run_bind, hagg, sizeOf, typeInfo, hq, hsz, hl]
    unfold Oper.wp execOp
    simp only [ho, hx, Instr.loadAt, Instr.sureAddr, Sem.run_bind, Sem.run_pure, Result.andThen_ok, hlv]
    exact hK _ _ h
theorem rd_getElem {l : List Int} {j : Nat} {v : Int} (h : l[j]? = some v) : rd l (j : Int) = v := by simp [rd, List.getD, h]
theorem cells16 {w : World} {ad : Addr} {n : Nat} {l : List Int} (h : (Kd.int .u8).C w (some ad) n l) (hl : 16 ≤ l.length) : ∀ j v, (#[Value.int .u8 (rd l 0), .int .u8 (rd l 1), .int .u8 (rd l 2), .int .u8 (rd l 3), .int .u8 (rd l 4), .int .u8 (rd l 5), .int .u8 (rd l 6), .int .u8 (rd l 7), .int .u8 (rd l 8), .int .u8 (rd l 9), .int .u8 (rd l 10), .int .u8 (rd l 11), .int .u8 (rd l 12), .int .u8 (rd l 13), .int .u8 (rd l 14), .int .u8 (rd l 15)]).toList[j]? = some v → w.cell? (ad.add j) = some v := by
  intro j v hj
  have hj16 : j < 16 := by have := (List.getElem?_eq_some_iff.1 hj).1; simpa using this
  obtain ⟨hn, _, hc⟩ := h
  obtain ⟨a2, e2, hc2⟩ := hc (by omega)
  cases e2
  obtain ⟨ce, _, hce, hcc⟩ := hc2 j (l[j]'(by omega)) (List.getElem?_eq_getElem (by omega))
  have e1 : v = .int .u8 (l[j]'(by omega)) := by
    have hr : rd l (j : Int) = l[j]'(by omega) := rd_getElem (List.getElem?_eq_getElem (by omega))
    rw [← hr]
    have hk : j = 0 ∨ j = 1 ∨ j = 2 ∨ j = 3 ∨ j = 4 ∨ j = 5 ∨ j = 6 ∨ j = 7 ∨ j = 8 ∨ j = 9 ∨ j = 10 ∨ j = 11 ∨ j = 12 ∨ j = 13 ∨ j = 14 ∨ j = 15 := by omega
    rcases hk with rfl | rfl | rfl | rfl | rfl | rfl | rfl | rfl | rfl | rfl | rfl | rfl | rfl | rfl | rfl | rfl <;> (simp at hj; exact hj.symm)
  rw [e1]
  have hu : ce = [.int .u8 (l[j]'(by omega))] := hce
  have := hcc 0 (.int .u8 (l[j]'(by omega))) (by rw [hu]; rfl)
  have h3 : w.cell? (ad.add (j * 1 + 0)) = some (.int .u8 (l[j]'(by omega))) := this
  simpa using h3
theorem rowput_run {P : Program} {o : Oper} {a : Act} {w : World} {ty : TypeId} {x y : Operand} (ho : o.op = .store ty x y) (g off : Nat) (t : TypeId) (cur : Array Value) (u : Value) (seg : List Value) (hx : a.eval x = .pointer (some ⟨g, off, none⟩)) (hy : a.eval y = u) (hu : u.cells.toList = seg) (hg : w.heap[g]? = some (.cells cur t (0, 0))) (hi : (P.info? ty).map (·.size) = some seg.length) (hfit : off + seg.length ≤ cur.size) (h1 : ∀ q ∈ seg, q.oneCell' = true) {w1 : World} (hw : w.setCells g off seg = w1) : (execOp a.eval o).run P w = .ok .skip w1 := by
  have hr := run_store_run (P := P) ty u seg hg hu hi hfit h1
  unfold execOp
  simp only [ho, hx, hy, Sem.run_bind, hr, Result.andThen_ok, Sem.run_pure, hw]
theorem rowput_event {P : Program} {ops : Array Oper} {rest : List Oper} {o : Oper} {a : Act} {w : World} {Q : Exit → Act → World → Prop} (hgd : o.guard = none) {ty : TypeId} {x y : Operand} (ho : o.op = .store ty x y) (hN : o.dst = none) (g off : Nat) (t : TypeId) (cur cur' : Array Value) (u : Value) (seg : List Value) (hx : a.eval x = .pointer (some ⟨g, off, none⟩)) (hy : a.eval y = u) (hu : u.cells.toList = seg) (hg : w.heap[g]? = some (.cells cur t (0, 0))) (hi : (P.info? ty).map (·.size) = some seg.length) (hfit : off + seg.length ≤ cur.size) (h1 : ∀ q ∈ seg, q.oneCell' = true) (hc : cur.toList.take off ++ seg ++ cur.toList.drop (off + seg.length) = cur'.toList) {B : Nat} {w0 : World} (HB : Below B w0 w) (hle : B ≤ g)
    (h : ∀ w', w'.heap[g]? = some (.cells cur' t (0, 0)) → (∀ k, k ≠ g → w'.heap[k]? = w.heap[k]?) → Below B w0 w' → wpList P ops Q rest a w') : wpList P ops Q (o :: rest) a w := by
  have hr := run_store_run (P := P) ty u seg hg hu hi hfit h1
  obtain ⟨cur2, h3, h4, h5⟩ := setCells_row seg off w cur hg hfit
  obtain ⟨s1, s2, s3, s4⟩ := setCells_same g seg off w
  have e2 : cur2 = cur' := Array.toList_inj.1 (h5.trans hc)
  subst e2
  have hfar : ∀ k, k ≠ g → (w.setCells g off seg).heap[k]? = w.heap[k]? := fun k hk => setCells_far seg off k hk
  refine wpList_plain hgd fun K hK => ?_
  unfold Oper.wp execOp
  simp only [ho, hx, hy, Sem.run_bind, hr, Result.andThen_ok, Sem.run_pure]
  refine hK _ _ ?_
  rw [hN]
  exact h _ h3 hfar ⟨s1.trans HB.os, s2.trans HB.tape, s3.trans HB.output, Nat.le_trans HB.size (Nat.le_of_eq s4.symm), fun k hk => (hfar k (by omega)).trans (HB.block k hk)⟩
end Go.Proofs.YtcpbfckmngbgdaaDoor
