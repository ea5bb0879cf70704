/-
  Package fields' Reader: how it takes bytes, and the numbers of them.
-/
import Derived.RangeFuncNested
import Derived.RangeFuncBound
import Derived.RangeFuncCalls
import Derived.RangeFuncLeaves
import Derived.RangeFuncFrom
import Derived.Shelf.Abstract
import Derived.Shelf.RegionOpen
import Derived.WalkKit
import Derived.OwnWalkIn
import Derived.TacticsInMore
import Derived.LoopNIn
import Derived.LoopIn
import Derived.Test.YtnlaiiophongmaaDoorWWords
import Derived.Test.YtnlaiiophongmaaDoorProg
import Derived.Deep.QuietTactic
import Derived.BigQuiet
import Derived.Outline
import Derived.Lib.Hide
namespace Go.Proofs.YtnlaiiophongmaaDoor
open Go.RowKit Go.Shelf Go.Proofs.YtnlaiiophongmaaDoorW.PrintWords
set_option linter.unusedVariables false
set_option linter.unusedSimpArgs false

/-- all but block g is as it was -/
structure But (g : Nat) (w w' : World) : Prop where
  os : w'.os = w.os
  tape : w'.tape = w.tape
  output : w'.output = w.output
  size : w.heap.size ≤ w'.heap.size
  block : ∀ k, k < w.heap.size → k ≠ g → w'.heap[k]? = w.heap[k]?
theorem But.refl (g : Nat) (w : World) : But g w w := ⟨rfl, rfl, rfl, Nat.le_refl _, fun _ _ _ => rfl⟩
theorem But.trans {g : Nat} {a b c : World} (h : But g a b) (k : But g b c) : But g a c := ⟨k.os.trans h.os, k.tape.trans h.tape, k.output.trans h.output, Nat.le_trans h.size k.size, fun i hi hg => (k.block i (Nat.lt_of_lt_of_le hi h.size) hg).trans (h.block i hi hg)⟩
theorem But.of_below {g : Nat} {a b : World} (h : Below a.heap.size a b) : But g a b := ⟨h.os, h.tape, h.output, h.size, fun i hi _ => h.block i hi⟩
theorem But.drewN {g : Nat} {a b : World} (h : But g a b) (n : Nat) : But g a (b.drewN n) := ⟨h.os, h.tape, h.output, h.size, h.block⟩
theorem But.drew {g : Nat} {a b : World} (h : But g a b) : But g a b.drew := ⟨h.os, h.tape, h.output, h.size, h.block⟩
theorem But.setCell {g : Nat} {a b : World} (h : But g a b) (i : Nat) (v : Value) : But g a (b.setCell ⟨g, i, none⟩ v) := by
  refine ⟨h.os, h.tape, h.output, by simpa [World.setCell] using h.size, fun k hk hg => ?_⟩
  rw [← h.block k hk hg]
  exact Below.heap_setCell b ⟨g, i, none⟩ v k hg

theorem take_nil (n : Int) (w : World) : Calls Tryd.prog 139 #[.pointer none, .int .i64 n] w fun e w' => e = .returned (.slice none 0 0) ∧ w' = w := by
  go_enter Tryd.func139, Tryd.ntmps139
  go_wp2
  go_ret
  exact ⟨rfl, rfl⟩
theorem take_bad (g : Nat) (v : Value) (n : Int) (w : World) (hb : w.heap[g]? = some (.cells #[v, .bool true] 195 (0, 0))) (hv : v.oneCell' = true) :
    Calls Tryd.prog 139 #[.pointer (some ⟨g, 0, none⟩), .int .i64 n] w fun e w' => e = .returned (.slice none 0 0) ∧ w'.heap[g]? = some (.cells #[.slice none 0 0, .bool true] 195 (0, 0)) ∧ But g w w' := by
  have h0 := (blk_cell hb 0).trans rfl
  have h1 : w.cell? ⟨g, 1, none⟩ = some (.bool true) := (blk_cell hb 1).trans rfl
  have f0 := blk_frozen hb 0
  have f1 := blk_frozen hb 1
  go_enter Tryd.func139, Tryd.ntmps139
  go_wp2
  go_ret
  exact ⟨rfl, blk_put (cs := #[.slice none 0 0, .bool true]) (blk_put (cs := #[v, .bool true]) hb 0 _ rfl) 1 _ rfl, ((But.refl g w).setCell 0 _).setCell 1 _⟩
theorem take_short (g : Nat) (A : Option Addr) (len c : Nat) (n : Int) (w : World) (hb : w.heap[g]? = some (.cells #[.slice A len c, .bool false] 195 (0, 0))) (hn : (len : Int) < n) :
    Calls Tryd.prog 139 #[.pointer (some ⟨g, 0, none⟩), .int .i64 n] w fun e w' => e = .returned (.slice none 0 0) ∧ w'.heap[g]? = some (.cells #[.slice none 0 0, .bool true] 195 (0, 0)) ∧ But g w w' := by
  have h0 : w.cell? ⟨g, 0, none⟩ = some (.slice A len c) := (blk_cell hb 0).trans rfl
  have h1 : w.cell? ⟨g, 1, none⟩ = some (.bool false) := (blk_cell hb 1).trans rfl
  have f0 := blk_frozen hb 0
  have f1 := blk_frozen hb 1
  go_enter Tryd.func139, Tryd.ntmps139
  go_wp2
  go_ret
  exact ⟨rfl, blk_put (cs := #[.slice none 0 0, .bool false]) (blk_put (cs := #[.slice A len c, .bool false]) hb 0 _ rfl) 1 _ rfl, ((But.refl g w).setCell 0 _).setCell 1 _⟩
theorem info5 : (Tryd.prog.info? 5).map (fun i => (i.zero, i.size, i.bytes)) = some (some (.int .u8 0), 1, 1) := by kernel_rfl
set_option maxRecDepth 100000 in
theorem take_ok (g : Nat) (A : Option Addr) (len c n : Nat) (w : World) (hb : w.heap[g]? = some (.cells #[.slice A len c, .bool false] 195 (0, 0))) (hn : n ≤ len) (hl : len ≤ c) (hc : c ≤ maxLen) :
    Calls Tryd.prog 139 #[.pointer (some ⟨g, 0, none⟩), .int .i64 n] w fun e w' => e = .returned (.slice A n c) ∧ w'.heap[g]? = some (.cells #[.slice (if c = n then A else A.map (·.add (n * 1))) (len - n) (c - n), .bool false] 195 (0, 0)) ∧ But g w w' := by
  have h0 : w.cell? ⟨g, 0, none⟩ = some (.slice A len c) := (blk_cell hb 0).trans rfl
  have h1 : w.cell? ⟨g, 1, none⟩ = some (.bool false) := (blk_cell hb 1).trans rfl
  have f0 := blk_frozen hb 0
  have f1 := blk_frozen hb 1
  obtain ⟨i0, hi0, _, hsz, _⟩ := info_parts info5
  unfold maxLen at hc
  have hq : ((n : Int) ≤ (len : Int)) := by omega
  have cut1 := cut_to (P := Tryd.prog) 47 5 .i64 Tryd.underlying47 hi0 A len c (n : Int) (by omega) hq hl
  have cut2 := cut_from (P := Tryd.prog) 47 5 .i64 Tryd.underlying47 hi0 1 hsz A len c (n : Int) (by omega) hq
  simp only [Int.toNat_natCast] at cut1 cut2
  obtain ⟨A2, hA2⟩ : ∃ A2, A2 = (if c = n then A else A.map (·.add (n * 1))) := ⟨_, rfl⟩
  rw [← hA2] at cut2 ⊢
  clear hA2
  go_enter Tryd.func139, Tryd.ntmps139
  go_wp2
  go_ret
  exact ⟨rfl, blk_put (cs := #[.slice A len c, .bool false]) hb 0 _ rfl, (But.refl g w).setCell 0 _⟩

/-- all blocks up to n1 but bv are as they were -/
def Kv (n1 bv : Nat) (W W' : World) : Prop := ∀ k, k < n1 → k ≠ bv → W'.heap[k]? = W.heap[k]?
theorem Kv.cell {n1 bv : Nat} {W W' : World} (h : Kv n1 bv W W') {p : Addr} (hp : p.block < n1) (hne : p.block ≠ bv) : W'.cell? p = W.cell? p := by
  unfold World.cell?; rw [h _ hp hne]
theorem Kv.trans {n1 bv : Nat} {A B C : World} (h : Kv n1 bv A B) (k : Kv n1 bv B C) : Kv n1 bv A C := fun i h1 h2 => (k i h1 h2).trans (h i h1 h2)
/-- what has come, from the last on down to place m -/
def down (zs : List Int) (len m : Nat) : List (Int × Int) := ((List.range' m (len - m)).reverse).map fun j : Nat => ((j : Int), zs[j]?.getD 0)
theorem down_start (zs : List Int) (len : Nat) : down zs len len = [] := by simp [down]
theorem down_step (zs : List Int) (len m : Nat) (h : m < len) : down zs len m = down zs len (m + 1) ++ [((m : Int), zs[m]?.getD 0)] := by
  unfold down
  rw [show len - m = (len - (m + 1)) + 1 by omega, List.range'_succ]
  simp
theorem down_length (zs : List Int) (len m : Nat) : (down zs len m).length = len - m := by simp [down]
theorem down_all (zs : List Int) : (down zs zs.length 0).map (·.2) = zs.reverse := by
  unfold down
  rw [List.map_map, List.map_reverse]
  congr 1
  apply List.ext_getElem
  · simp
  · intro i h1 h2
    simp at h1 h2 ⊢
    simp [h1]
attribute [local go_sem] Oper.semAt_some
set_option maxRecDepth 100000 in
set_option maxHeartbeats 2000000 in
theorem back1_in (F : Fence) (n : Nat) (h7 : F.fn 142) (hro : F.round = none) (hn : 1 ≤ n) (l Bs n1 bv : Nat) (a : Addr) (len cap : Nat) (zs : List Int) (hreach : len ≤ 140737488351232) (hb : a.block < n1) (hbv : a.block ≠ bv) (hs : Bs < n1) (hsv : Bs ≠ bv) (J Jx : List (Int × Int) → World → Prop)
    (hY : ∀ pre x W, J pre W → pre.length < len → YieldAt F (n - 1) Tryd.prog l #[.int .i64 x.1, .int .u8 x.2] W fun e W' =>
      (e = .returned (.bool true) ∧ J (pre ++ [x]) W' ∧ Kv n1 bv W W') ∨ (e = .returned (.bool false) ∧ Jx (pre ++ [x]) W'))
    (W : World) (hBs : W.cell? ⟨Bs, 0, none⟩ = some (.slice (some a) len cap)) (hc : ∀ j, j < len → W.cell? (a.add j) = some (.int .u8 (zs[j]?.getD 0))) (h0 : J [] W) :
    CallsIn F n Tryd.prog 142 #[.func (.yield l) #[] #[], .pointer (some ⟨Bs, 0, none⟩)] W fun e W' => (∃ v, e = .returned v) ∧
      ((∃ ys, ys = down zs len 0 ∧ J ys W') ∨ (∃ pre, True ∧ Jx pre W')) := by
  refine callsIn_of_wp Tryd.func142 rfl h7 ?_ hro
  simp only [Tryd.ntmps142, List.size_toArray, List.length_cons, List.length_nil, Nat.reduceAdd, Nat.reduceSub, Array.replicate_succ, Array.replicate_zero, List.push_toArray, List.append_toArray, List.nil_append, List.cons_append]
  gi_wp2
  gi_loopw [3] (fun i wr => ∃ (m : Nat) (q : Int), m ≤ len ∧ q + 1 = (m : Int) ∧ i = .int .i64 q ∧ J (down zs len m) wr ∧ Kv n1 bv W wr)
    (fun i _ => (intOf i + 1).toNat)
  case atStart => exact ⟨len, (len : Int) - 1, Nat.le_refl _, by omega, rfl, by rw [down_start]; exact h0, fun _ _ _ => rfl⟩
  case round =>
    obtain ⟨m, q, hm, hq, rfl, hJs, hk⟩ := hrel
    cases m with
    | zero =>
      obtain rfl : q = -1 := by omega
      clear hq
      gi_wp2
      go_end0
      exact ⟨⟨_, rfl⟩, .inl ⟨_, rfl, hJs⟩⟩
    | succ m =>
      obtain rfl : q = (m : Int) := by omega
      clear hq
      have hcx : wr.cell? (a.add m) = some (.int .u8 (zs[m]?.getD 0)) := (hk.cell (by rw [add_block]; exact hb) (by rw [add_block]; exact hbv)).trans (hc m (by omega))
      have hbx : wr.cell? ⟨Bs, 0, none⟩ = some (.slice (some a) len cap) := (hk.cell (p := ⟨Bs, 0, none⟩) hs hsv).trans hBs
      obtain ⟨fn, tmps, assign, body, hy, hR⟩ := hY _ ((m : Int), zs[m]?.getD 0) wr hJs (by rw [down_length]; omega)
      dsimp only at hy
      have hlt : (m : Int) < (len : Int) := by omega
      have hK : Hid (Kv n1 bv W wr) := Lib.hid hk
      clear hk
      gi_wp2
      refine hR.mono ?_
      rintro e W3 (⟨rfl, hJ3, hk3⟩ | ⟨rfl, hJx3⟩)
      · gi_wp2
        go_roundw
        case rel => exact ⟨m, (m : Int) - 1, by omega, by omega, by simp, by rw [down_step _ _ _ (by omega)]; exact hJ3, hK.out.trans hk3⟩
        case measure => simp [intOf]
      · gi_wp2
        refine bodyPost_ret (results_none rfl _ _ _) rfl ?_
        exact ⟨⟨_, rfl⟩, .inr ⟨_, trivial, hJx3⟩⟩
set_option maxRecDepth 100000 in
set_option maxHeartbeats 1000000 in
theorem back1_nil_in (F : Fence) (n : Nat) (h7 : F.fn 142) (hro : F.round = none) (l Bs : Nat) (A : Option Addr) (cap : Nat) (J : List (Int × Int) → World → Prop) (W : World) (hBs : W.cell? ⟨Bs, 0, none⟩ = some (.slice A 0 cap)) (h0 : J [] W) :
    CallsIn F n Tryd.prog 142 #[.func (.yield l) #[] #[], .pointer (some ⟨Bs, 0, none⟩)] W fun e W' => (∃ v, e = .returned v) ∧ J [] W' := by
  refine callsIn_of_wp Tryd.func142 rfl h7 ?_ hro
  simp only [Tryd.ntmps142, List.size_toArray, List.length_cons, List.length_nil, Nat.reduceAdd, Nat.reduceSub, Array.replicate_succ, Array.replicate_zero, List.push_toArray, List.append_toArray, List.nil_append, List.cons_append]
  gi_wp2
  gi_loopw [3] (fun i wr => i = .int .i64 (-1) ∧ J [] wr) (fun _ _ => 0)
  case atStart => exact ⟨rfl, h0⟩
  case round =>
    obtain ⟨rfl, hJs⟩ := hrel
    gi_wp2
    go_end0
    exact ⟨⟨_, rfl⟩, hJs⟩
set_option maxHeartbeats 1000000 in
theorem back_in (F : Fence) (n : Nat) (h6 : F.fn 138) (hro : F.round = none) (a : Option Addr) (len cap : Nat) (w : World) :
    CallsIn F n Tryd.prog 138 #[.slice a len cap] w fun e w' => e = .returned (.func (.func 142) #[] #[.pointer (some ⟨w.heap.size, 0, none⟩)]) ∧ w' = w.alloc (.cells #[.slice a len cap] 47) := by
  refine callsIn_of_wp Tryd.func138 rfl h6 ?_ hro
  simp only [Tryd.ntmps138, List.size_toArray, List.length_cons, List.length_nil, Nat.reduceAdd, Nat.reduceSub, Array.replicate_succ, Array.replicate_zero, List.push_toArray, List.append_toArray, List.nil_append, List.cons_append]
  gi_wp2
  go_ret
  exact ⟨rfl, rfl⟩
theorem qA2 {w : World} {g : Nat} {o : Obj} (h : w.heap[g]? = some o) (o' : Obj) : (w.alloc o').heap[g]? = some o := by
  have hl : g < w.heap.size := (Array.getElem?_eq_some_iff.1 h).1
  rw [heap_alloc_old w o' g hl]; exact h
/-- these bytes can be read there -/
def Bytes (n1 bv : Nat) (W : World) (A : Option Addr) (zs : List Int) : Prop := zs = [] ∨ ∃ a, A = some a ∧ a.block < n1 ∧ a.block ≠ bv ∧ ∀ j, j < zs.length → W.cell? (a.add j) = some (.int .u8 (zs[j]?.getD 0))
theorem Bytes.kept {n1 bv : Nat} {W W' : World} (hk : ∀ k, k < n1 → k ≠ bv → W'.heap[k]? = W.heap[k]?) {A : Option Addr} {zs : List Int} : Bytes n1 bv W A zs → Bytes n1 bv W' A zs
  | .inl e => .inl e
  | .inr ⟨a, e, hb, hv, hc⟩ => .inr ⟨a, e, hb, hv, fun j hj => (Kv.cell (n1 := n1) (bv := bv) hk (p := a.add j) (by rw [add_block]; exact hb) (by rw [add_block]; exact hv)).trans (hc j hj)⟩
theorem back_stops (F : Fence) (n : Nat) (h7 : F.fn 142) (hro : F.round = none) (hn : 1 ≤ n) (Bs n1 bv : Nat) (A : Option Addr) (cap : Nat) (zs : List Int) (hreach : zs.length ≤ 140737488351232) (w : World) (hs : Bs < n1) (hsv : Bs ≠ bv) (hn1 : n1 ≤ w.heap.size)
    (hc : w.cell? ⟨Bs, 0, none⟩ = some (.slice A zs.length cap)) (hI : Bytes n1 bv w A zs) :
    SeqStopsK F n Tryd.prog 142 #[.pointer (some ⟨Bs, 0, none⟩)] (fun x : Int × Int => #[Value.int .i64 x.1, Value.int .u8 x.2]) (Kv n1 bv) (fun ys => ys = down zs zs.length 0) (fun _ => True) zs.length w := fun l J Jx W hW _ _ hY h0 => by
  have hkk : ∀ k, k < n1 → k ≠ bv → W.heap[k]? = w.heap[k]? := fun k hk _ => hW.block k (by omega)
  have hc' : W.cell? ⟨Bs, 0, none⟩ = some (.slice A zs.length cap) := (hW.cell (p := ⟨Bs, 0, none⟩) (by show Bs < _; omega)).trans hc
  rcases hI.kept hkk with rfl | ⟨a, rfl, hb, hv, hcs⟩
  · exact (back1_nil_in F n h7 hro l Bs A cap J W hc' h0).mono fun e W' ⟨he, hj⟩ => ⟨he, .inl ⟨_, rfl, hj⟩⟩
  · exact back1_in F n h7 hro hn l Bs n1 bv a zs.length cap zs hreach hb hv hs hsv J Jx hY W hc' hcs h0
/-- a byte more -/
def nstep (v c : Int) : Int := Go.bits .or .u64 (IntKind.u64.wrap (v * 256)) (IntKind.u64.wrap c)
def numS (pre : List (Int × Int)) : Int := pre.foldl (fun v x => nstep v x.2) 0
theorem numS_snoc (pre : List (Int × Int)) (x : Int × Int) : numS (pre ++ [x]) = nstep (numS pre) x.2 := by simp [numS]
/-- the number of bytes, the lowest first -/
def numV (zs : List Int) : Int := zs.reverse.foldl nstep 0
theorem numV_down (zs : List Int) : numS (down zs zs.length 0) = numV zs := by
  unfold numS numV
  rw [← down_all, List.foldl_map]
theorem ownFrom_but {β : Type} {g B : Nat} {w0 : World} (hB : w0.heap.size ≤ B) : OwnFrom B (fun (_ : β) W => But g w0 W) := fun s W W' row hs hg hr =>
  ⟨hg.os.trans hs.os, hg.tape.trans hs.tape, hg.output.trans hs.output, Nat.le_trans hs.size hg.size, fun k hk hne => (hg.block k (Nat.lt_of_lt_of_le hk hs.size) (fun e => by have := (hr k e.symm).1; omega)).trans (hs.block k hk hne)⟩
set_option maxRecDepth 100000 in
set_option maxHeartbeats 4000000 in
theorem number_gen (r : Value) (n : Int) (g : Nat) (A : Option Addr) (c' : Nat) (ys : List Int) (T : World → Prop) (w : World)
    (hT : Calls Tryd.prog 139 #[r, .int .i64 n] (w.alloc (.cells #[.int .u64 0] 157)) fun e w' => e = .returned (.slice A ys.length c') ∧ T w' ∧ But g (w.alloc (.cells #[.int .u64 0] 157)) w')
    (hg : g ≠ w.heap.size) (hlen : ys.length ≤ 140737488351232)
    (hC : ∀ w', T w' → But g (w.alloc (.cells #[.int .u64 0] 157)) w' → Bytes w'.heap.size w.heap.size w' A ys)
    (hTk : ∀ w' w'', T w' → (g < w'.heap.size → w''.heap[g]? = w'.heap[g]?) → T w'') :
    Calls Tryd.prog 125 #[r, .int .i64 n] w fun e w' => e = .returned (.int .u64 (numV ys)) ∧ T w' ∧ But g w w' := by
  refine (callsIn_wide (n := 5)).1 ?_
  have h1 : 1 ≤ 5 := by omega
  refine callsIn_of_wp_marks Tryd.func125 rfl trivial ?_ rfl
  simp only [Tryd.ntmps125, List.size_toArray, List.length_cons, List.length_nil, Nat.reduceAdd, Nat.reduceSub, Array.replicate_succ, Array.replicate_zero, List.push_toArray, List.append_toArray, List.nil_append, List.cons_append]
  have hv0 : (w.alloc (.cells #[.int .u64 0] 157)).heap[w.heap.size]? = some (.cells #[.int .u64 0] 157 (0, 0)) := heap_alloc_new w _
  gi_wp2_with (first | (refine ⟨trivial, ?_⟩; gi_at_call 139; refine (callsIn_wide.2 hT).mono ?_; rintro e w2 ⟨rfl, hT2, hB2⟩) | (refine ⟨trivial, ?_⟩; gi_at_call 138; refine (back_in Fence.wide _ trivial rfl _ _ _ _).mono ?_; rintro e w3 ⟨rfl, hw3⟩))
  have hsz : w.heap.size + 1 ≤ w2.heap.size := by have := hB2.size; simpa using this
  have hv2 : w2.heap[w.heap.size]? = some (.cells #[.int .u64 0] 157 (0, 0)) := (hB2.block w.heap.size (by simp) (Ne.symm hg)).trans hv0
  have hv3 : w3.heap[w.heap.size]? = some (.cells #[.int .u64 0] 157 (0, 0)) := by rw [hw3]; exact qA2 hv2 _
  have hs3 : w3.heap[w2.heap.size]? = some (.cells #[.slice A ys.length c'] 47 (0, 0)) := by rw [hw3]; exact heap_alloc_new w2 _
  have hn3 : w3.heap.size = w2.heap.size + 1 := by rw [hw3]; simp
  have hk3 : ∀ k, k < w2.heap.size → w3.heap[k]? = w2.heap[k]? := fun k hk => by rw [hw3]; exact heap_alloc_old w2 _ k hk
  have hb3 : But w.heap.size w2 w3 := by rw [hw3]; exact But.of_below ((Below.refl _ w2).alloc (Nat.le_refl _) _)
  have hY3 : Bytes w3.heap.size w.heap.size w3 A ys := by
    rcases hC w2 hT2 hB2 with e | ⟨a, e, hb, hv, hc⟩
    · exact .inl e
    · exact .inr ⟨a, e, by omega, hv, fun j hj => by
        rw [← hc j hj]; unfold World.cell?; rw [hk3 _ (by rw [add_block]; exact hb)]⟩
  rw [← hw3]
  clear hw3
  refine wpIn_rangeFunc_ownF rfl h1 (gf := 142) (lb := #[.pointer (some ⟨w2.heap.size, 0, none⟩)]) rfl trivial (enters_of Tryd.func142 (by kernel_rfl) rfl)
    (back_stops Fence.wide (5 - 1) trivial rfl (by omega) w2.heap.size w3.heap.size w.heap.size A c' ys hlen w3 (by omega) (by omega) (Nat.le_refl _) ((blk_cell hs3 0).trans rfl) hY3) (fun h k => Kv.trans h k) (fun W l o o' hl _ _ _ k hk hne => World.putObj_heap_other (by omega)) (Below.refl _ _) (fun _ => rfl)
    (fun pre W => (W.cell? ⟨w.heap.size, 0, none⟩ = some (.int .u64 (numS pre)) ∧ W.frozen? ⟨w.heap.size, 0, none⟩ = false) ∧ But w.heap.size w3 W)
    (fun _ _ _ => False)
    (OwnFrom.and (Own.from (fun s A B row hs hg hr => ⟨cell_kept hs.1 hg hr, (frozen_kept hs.1 hg hr).trans hs.2⟩) _) (ownFrom_but (Nat.le_refl _)))
    (fun _ _ _ _ _ hs _ _ => hs)
    ⟨⟨(blk_cell hv3 0).trans rfl, blk_frozen hv3 0⟩, But.refl _ _⟩
    (fun x => { tmps := #[r, .int .i64 n, undef, undef, .int .u64 0, .pointer (some ⟨w.heap.size, 0, none⟩), undef, .int .u8 x.2, r, .int .i64 n, .slice A ys.length c', .func (.func 142) #[] #[.pointer (some ⟨w2.heap.size, 0, none⟩)], .int .i64 x.1, .int .u8 x.2, undef, undef, undef, undef, undef, undef], defers := [] }) ?assign ?body ?done ?stop
  case assign =>
    intro l x W K hK
    gi_wp2
    exact hK
  case body =>
    rintro l pre x W ⟨⟨hc, hf⟩, hB⟩ _
    gi_wp2
    exact ⟨KeepsOthers.setCell _ _ _, fun k _ hne => Below.heap_setCell W ⟨w.heap.size, 0, none⟩ _ k hne, ⟨by rw [numS_snoc]; exact World.cell?_setCell_same' _ _ _ (by rw [hc]; rfl), by rw [World.frozen?_setCell]; exact hf⟩, hB.setCell 0 _⟩
  case done =>
    rintro D xs W hD rfl ⟨⟨hc, hf⟩, hB⟩ hK
    gi_wp2
    refine ⟨by simp, .inl ⟨_, _, rfl, run_takeDeferred hK, ?_⟩⟩
    have hkk : ∀ k, k < w2.heap.size → k ≠ w.heap.size → (W.putObj D (.deferred none)).heap[k]? = w2.heap[k]? := fun k hk hne => (World.putObj_heap_other (by omega)).trans ((hB.block k (by omega) hne).trans (hk3 k hk))
    refine ⟨_, results_tmp rfl _ _ _, by rw [numV_down]; rfl, hTk w2 _ hT2 (fun h => hkk g h hg), ?_⟩
    have hp := grownBy_putObj' W D (.deferred none)
    exact ⟨hp.os.trans (hB.os.trans (hb3.os.trans hB2.os)), hp.tape.trans (hB.tape.trans (hb3.tape.trans hB2.tape)), hp.output.trans (hB.output.trans (hb3.output.trans hB2.output)), Nat.le_trans (by omega) (Nat.le_trans hB.size hp.size), fun k hk hne => (hkk k (by omega) (by omega)).trans ((hB2.block k (by simp; omega) hne).trans (heap_alloc_old w _ k hk))⟩
  case stop =>
    rintro D c pre W _ _ h _
    exact h.elim

/-- a reader of bytes: what is left; whether there was too little -/
def Rdr (w : World) (g : Nat) (l : List Int) (bad : Bool) : Prop :=
  ∃ A c, w.heap[g]? = some (.cells #[.slice A l.length c, .bool bad] 195 (0, 0)) ∧ l.length ≤ c ∧ c ≤ maxLen ∧ l.length ≤ 140737488351232 ∧ Bytes w.heap.size g w A l
theorem Rdr.lt {w : World} {g : Nat} {l : List Int} {bad : Bool} (h : Rdr w g l bad) : g < w.heap.size := by
  obtain ⟨A, c, hb, _⟩ := h
  exact (Array.getElem?_eq_some_iff.1 hb).1
theorem Rdr.below {w w' : World} {g : Nat} {l : List Int} {bad : Bool} (h : Rdr w g l bad) (hb : Below w.heap.size w w') : Rdr w' g l bad := by
  have hl := h.lt
  obtain ⟨A, c, h1, h2, h3, h5, h4⟩ := h
  refine ⟨A, c, (hb.block g hl).trans h1, h2, h3, h5, ?_⟩
  rcases h4 with e | ⟨a, e, k1, k2, k3⟩
  · exact .inl e
  · exact .inr ⟨a, e, Nat.lt_of_lt_of_le k1 hb.size, k2, fun j hj => (hb.cell (p := a.add j) (by rw [add_block]; exact k1)).trans (k3 j hj)⟩
/-- what a reader tells of so many bytes -/
def rdNum (l : List Int) (bad : Bool) (n : Nat) : Int := if bad = true ∨ l.length < n then 0 else numV (l.take n)
def rdLeft (l : List Int) (bad : Bool) (n : Nat) : List Int := if bad = true ∨ l.length < n then [] else l.drop n
def rdBad (l : List Int) (bad : Bool) (n : Nat) : Bool := bad || decide (l.length < n)
theorem add_add (a : Addr) (i j : Nat) : (a.add i).add j = a.add (i + j) := by
  unfold Addr.add
  by_cases h1 : i = 0 <;> by_cases h2 : j = 0 <;> simp [h1, h2, Nat.add_assoc]
theorem number_calls (g n : Nat) (l : List Int) (bad : Bool) (w : World) (h : Rdr w g l bad) :
    Calls Tryd.prog 125 #[.pointer (some ⟨g, 0, none⟩), .int .i64 n] w fun e w' => e = .returned (.int .u64 (rdNum l bad n)) ∧ Rdr w' g (rdLeft l bad n) (rdBad l bad n) ∧ But g w w' := by
  have hg := h.lt
  have hA : Below w.heap.size w (w.alloc (.cells #[.int .u64 0] 157)) := (Below.refl _ w).alloc (Nat.le_refl _) _
  obtain ⟨A, c, hb, hl, hc, hL, hB⟩ := h
  have hb1 : (w.alloc (.cells #[.int .u64 0] 157)).heap[g]? = some (.cells #[.slice A l.length c, .bool bad] 195 (0, 0)) := (hA.block g hg).trans hb
  by_cases hs : bad = true ∨ l.length < n
  · have hT : Calls Tryd.prog 139 #[.pointer (some ⟨g, 0, none⟩), .int .i64 n] (w.alloc (.cells #[.int .u64 0] 157)) fun e w' => e = .returned (.slice none 0 0) ∧ w'.heap[g]? = some (.cells #[.slice none 0 0, .bool true] 195 (0, 0)) ∧ But g (w.alloc (.cells #[.int .u64 0] 157)) w' := by
      cases bad with
      | true => exact take_bad g _ n _ hb1 rfl
      | false => exact take_short g A l.length c n _ hb1 (by have : l.length < n := hs.resolve_left (by simp); omega)
    refine (number_gen _ n g none 0 [] (fun w' => w'.heap[g]? = some (.cells #[.slice none 0 0, .bool true] 195 (0, 0))) w hT (Nat.ne_of_lt hg) (by simp) (fun _ _ _ => .inl rfl) (fun w' w'' h1 h2 => (h2 (Array.getElem?_eq_some_iff.1 h1).1).trans h1)).mono ?_
    rintro e w' ⟨he, h1, h2⟩
    refine ⟨by rw [he]; simp [rdNum, hs, numV], ⟨none, 0, ?_, ?_, Nat.zero_le _, by simp [rdLeft, hs], .inl (by simp [rdLeft, hs])⟩, h2⟩
    · rw [h1]
      have : rdBad l bad n = true := by unfold rdBad; rcases hs with h | h <;> simp [h]
      simp [rdLeft, hs, this]
    · simp [rdLeft, hs]
  · obtain ⟨hbad, hn⟩ : bad = false ∧ n ≤ l.length := by
      cases bad
      · exact ⟨rfl, by omega⟩
      · exact absurd (Or.inl rfl) hs
    subst hbad
    have hT := take_ok g A l.length c n _ hb1 hn hl hc
    have hBy : ∀ w', But g (w.alloc (.cells #[.int .u64 0] 157)) w' → Bytes w.heap.size g w' A l := fun w' hk => hB.kept (fun k h1 h2 => (hk.block k (by simp; omega) h2).trans (heap_alloc_old w _ k h1))
    have hlt : (l.take n).length = n := by rw [List.length_take]; omega
    refine (number_gen _ n g A c (l.take n) (fun w' => w'.heap[g]? = some (.cells #[.slice (if c = n then A else A.map (·.add (n * 1))) (l.length - n) (c - n), .bool false] 195 (0, 0))) w (by rw [hlt]; exact hT) (Nat.ne_of_lt hg) (by omega) ?_ (fun w' w'' h1 h2 => (h2 (Array.getElem?_eq_some_iff.1 h1).1).trans h1)).mono ?_
    · intro w' _ hk
      rcases hBy w' hk with e | ⟨a, e, k1, k2, k3⟩
      · exact .inl (by rw [e]; simp)
      · have := hk.size
        simp at this
        exact .inr ⟨a, e, by omega, by omega, fun j hj => by rw [k3 j (by omega)]; rw [List.getElem?_take_of_lt (by omega)]⟩
    · rintro e w' ⟨he, h1, h2⟩
      have e1 : rdNum l false n = numV (l.take n) := by unfold rdNum; rw [if_neg hs]
      have e2 : rdLeft l false n = l.drop n := by unfold rdLeft; rw [if_neg hs]
      have e3 : rdBad l false n = false := by unfold rdBad; simp; omega
      refine ⟨by rw [he, e1], ?_, h2⟩
      rw [e2, e3]
      refine ⟨_, _, by rw [List.length_drop]; exact h1, by rw [List.length_drop]; omega, by omega, by rw [List.length_drop]; omega, ?_⟩
      by_cases hz : l.length = n
      · exact .inl (by rw [List.drop_eq_nil_iff]; omega)
      · have hBw : Bytes w.heap.size g w' A l := hB.kept (fun k h1 h3 => h2.block k h1 h3)
        rcases hBw with e | ⟨a, rfl, k1, k2, k3⟩
        · subst e; simp at hn; simp at hz; omega
        · rw [if_neg (by omega)]
          refine .inr ⟨a.add (n * 1), rfl, by rw [add_block]; exact Nat.lt_of_lt_of_le k1 h2.size, by rw [add_block]; exact k2, fun j hj => ?_⟩
          rw [List.length_drop] at hj
          rw [add_add, Nat.mul_one, k3 (n + j) (by omega), List.getElem?_drop]
theorem number_nil (n : Int) (w : World) : Calls Tryd.prog 125 #[.pointer none, .int .i64 n] w fun e w' => e = .returned (.int .u64 0) ∧ Below w.heap.size w w' := by
  refine (number_gen (.pointer none) n (w.heap.size + 1) none 0 [] (fun _ => True) w ((take_nil n _).mono fun e w' ⟨h1, h2⟩ => ⟨h1, trivial, by subst h2; exact But.refl _ _⟩) (by omega) (by simp) (fun _ _ _ => .inl rfl) (fun _ _ _ _ => trivial)).mono ?_
  rintro e w' ⟨he, _, h⟩
  exact ⟨by rw [he]; rfl, h.os, h.tape, h.output, h.size, fun k hk => h.block k hk (by omega)⟩
theorem bytes_of_C {w : World} {A : Option Addr} {l : List Int} {n1 bv : Nat} (hC : (Kd.int .u8).C w A l.length l) (hb : ∀ a, A = some a → a.block < w.heap.size → a.block < n1 ∧ a.block ≠ bv) : Bytes n1 bv w A l := by
  by_cases hl : l = []
  · exact .inl hl
  · have hp : 0 < l.length := List.length_pos_iff.2 hl
    have hR := Kd.reads_of_C (enc := Value.int .u8) (d := (0 : Int)) (h1 := fun _ => rfl) hC
    obtain ⟨a, rfl, hc⟩ := hR.2.2 hp
    have hlt : a.block < w.heap.size := by
      have h0 := hc 0 hp
      have := block_lt_of_cell h0
      rwa [add_block] at this
    exact .inr ⟨a, rfl, (hb a rfl hlt).1, (hb a rfl hlt).2, fun j hj => by rw [hc j hj]; simp [List.getD_eq_getElem?_getD]⟩
theorem Rdr.of_C {w : World} {A : Option Addr} {l : List Int} {c g : Nat} (hb : w.heap[g]? = some (.cells #[.slice A l.length c, .bool false] 195 (0, 0))) (hl : l.length ≤ c) (hc : c ≤ maxLen) (hL : l.length ≤ 140737488351232) (hC : (Kd.int .u8).C w A l.length l) (hg : ∀ a, A = some a → a.block ≠ g) : Rdr w g l false :=
  ⟨A, c, hb, hl, hc, hL, bytes_of_C hC (fun a e h => ⟨h, hg a e⟩)⟩
end Go.Proofs.YtnlaiiophongmaaDoor
