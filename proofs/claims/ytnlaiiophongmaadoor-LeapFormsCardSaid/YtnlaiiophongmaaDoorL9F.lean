/-
  Encoding a table of leap seconds: what both compute.
-/
import Derived.Test.YtnlaiiophongmaaDoorD9
import Derived.Test.YtnlaiiophongmaaDoorML9x
import Derived.Test.YtnlaiiophongmaaDoorMSux
namespace Go.Proofs.YtnlaiiophongmaaDoor.ML9
open Go.RowKit Go.Proofs.YtnlaiiophongmaaDoorW.PrintWords Go.Proofs.YtnlaiiophongmaaDoorW.PrintLast Go.Proofs.YtnlaiiophongmaaDoorW.PrintMore Go.Proofs.YtnlaiiophongmaaDoor.MCb
set_option linter.unusedVariables false
set_option linter.unusedSimpArgs false

theorem sealf (X : List Int) (hX : ∀ x ∈ X, B8 x) (hl : X.length ≤ 5000) : (blob_Seal.f 5 X).bind (fun bt => some (bt.1, bt.2)) = some (sealR 5 X) := by
  unfold blob_Seal.f
  rw [if_pos ⟨by omega, hl, hX⟩]; rfl
theorem rsealf (X : List Int) (hX : ∀ x ∈ X, B8 x) (hl : X.length ≤ 5000) : (fuseeref06_Seal.f 5 X).bind (fun bt => some (bt.1, bt.2)) = some ((sealR 5 X).1, numE (sealR 5 X).2) := by
  unfold fuseeref06_Seal.f
  rw [if_pos ⟨by omega, hl, hX⟩]; rfl
theorem enc_l0 (L : List Int) (hL : L.length ≤ 300) : ∀ (d k i : Nat) (acc : List Int), i + d = L.length → d + 20 < k → acc.length ≤ 17 + 8 * i → (∀ x ∈ acc, B8 x) → leap_Encode.l0 k acc L (L.length : Int) (i : Int) = some (sealR 5 (acc ++ encs (L.drop i))) := by
  intro d
  induction d with
  | zero =>
    intro k i acc hi hk hl hb
    obtain ⟨k, rfl⟩ : ∃ m, k = m + 1 := ⟨k - 1, by omega⟩
    simp only [leap_Encode.l0]
    rw [if_neg (by omega), sealf acc hb (by omega), List.drop_eq_nil_of_le (by omega)]
    simp [MCb.encs]
  | succ d ih =>
    intro k i acc hi hk hl hb
    obtain ⟨k, rfl⟩ : ∃ m, k = m + 1 := ⟨k - 1, by omega⟩
    simp only [leap_Encode.l0]
    rw [if_pos (by omega), if_pos (by omega), if_pos (by omega), i64_app k (by omega) acc _ (by omega), Option.bind_some, wrapS (by omega)]
    have hd : L.drop i = rd L (i : Int) :: L.drop (i + 1) := by
      rw [List.drop_eq_getElem_cons (by omega)]
      congr 1
      unfold rd
      rw [Int.toNat_natCast, List.getD, List.getElem?_eq_getElem (by omega)]; rfl
    rw [ih k (i + 1) _ (by omega) (by omega) (by rw [List.length_append, bytesN_length]; omega) (fun x hx => by
      rcases List.mem_append.1 hx with z | z
      · exact hb x z
      · exact bytesN_byte 8 _ x z), hd, List.append_assoc]
    rfl
theorem enc_eq (k : Nat) (hk : 350 ≤ k) (b l : Int) (L : List Int) (hL : L.length ≤ 300) : leap_Encode.f k b l L = some (encR b l L) := by
  unfold leap_Encode.f encR
  rw [check_eq k b l L hL (by omega)]
  by_cases h : tabOk b l L = true
  · have hn := tab_len h
    rw [if_pos h, if_pos h, Option.bind_some, if_pos (show (none : Option Int).isNone = true from rfl), i64_app k (by omega) _ _ (by simp), Option.bind_some, i64_app k (by omega) _ _ (by simp [bytesN_length]), Option.bind_some]
    simp only [Option.bind_some]
    rw [if_pos (by simp [bytesN_length]), show (0 : Int) = ((0 : Nat) : Int) from rfl, enc_l0 L hL L.length k 0 _ (by omega) (by omega) (by simp [bytesN_length]) ?_]
    · simp [encV, headV]
    · intro x hx
      simp only [List.nil_append, List.mem_append, List.mem_singleton] at hx
      rcases hx with (z | z) | z
      · exact bytesN_byte 8 _ x z
      · exact bytesN_byte 8 _ x z
      · subst z; unfold B8; omega
  · rw [if_neg h, if_neg h]; rfl
theorem renc_l0 (b l : Int) (L : List Int) (hL : L.length ≤ 300) : ∀ (d k i : Nat) (acc : List Int), i + d = L.length → d + 20 < k → acc.length ≤ 17 + 8 * i → (∀ x ∈ acc, B8 x) → fuseeref09_Encode.l0 k acc (i : Int) b l L = some ((sealR 5 (acc ++ encs (L.drop i))).1, numE (sealR 5 (acc ++ encs (L.drop i))).2) := by
  intro d
  induction d with
  | zero =>
    intro k i acc hi hk hl hb
    obtain ⟨k, rfl⟩ : ∃ m, k = m + 1 := ⟨k - 1, by omega⟩
    simp only [fuseeref09_Encode.l0]
    rw [if_neg (by omega), rsealf acc hb (by omega), List.drop_eq_nil_of_le (by omega)]
    simp [MCb.encs]
  | succ d ih =>
    intro k i acc hi hk hl hb
    obtain ⟨k, rfl⟩ : ∃ m, k = m + 1 := ⟨k - 1, by omega⟩
    have hr := u64_range (rd L (i : Int))
    simp only [fuseeref09_Encode.l0]
    rw [if_pos (by omega), if_pos (by omega), show (8 : Int) = ((8 : Nat) : Int) from rfl, put_eq k 8 (by omega) (by omega) acc _ hr.1 hr.2 (by omega), Option.bind_some, wrapS (by omega)]
    have hd : L.drop i = rd L (i : Int) :: L.drop (i + 1) := by
      rw [List.drop_eq_getElem_cons (by omega)]
      congr 1
      unfold rd
      rw [Int.toNat_natCast, List.getD, List.getElem?_eq_getElem (by omega)]; rfl
    rw [ih k (i + 1) _ (by omega) (by omega) (by rw [List.length_append, bytesN_length]; omega) (fun x hx => by
      rcases List.mem_append.1 hx with z | z
      · exact hb x z
      · exact bytesN_byte 8 _ x z), hd, List.append_assoc]
    rfl
theorem renc_eq (k : Nat) (hk : 350 ≤ k) (b l : Int) (L : List Int) (hL : L.length ≤ 300) : fuseeref09_Encode.f k b l L = some ((encR b l L).1, numE (encR b l L).2) := by
  unfold fuseeref09_Encode.f encR
  rw [may_eq k b l L hL (by omega)]
  by_cases h : tabOk b l L = true
  · have hn := tab_len h
    have h1 := u64_range b
    have h2 := u64_range l
    have h3 := u64_range (L.length : Int)
    have e3 : IntKind.u64.wrap (L.length : Int) = (L.length : Int) := by rw [IntKind.wrap_u64]; omega
    rw [h, if_pos rfl, Option.bind_some, if_pos rfl, show (8 : Int) = ((8 : Nat) : Int) from rfl, show (1 : Int) = ((1 : Nat) : Int) from rfl, put_eq k 8 (by omega) (by omega) _ _ h1.1 h1.2 (by simp), Option.bind_some, put_eq k 8 (by omega) (by omega) _ _ h2.1 h2.2 (by simp [bytesN_length]), Option.bind_some, put_eq k 1 (by omega) (by omega) _ _ h3.1 h3.2 (by simp [bytesN_length]), Option.bind_some]
    rw [show (0 : Int) = ((0 : Nat) : Int) from rfl, renc_l0 b l L hL L.length k 0 _ (by omega) (by omega) (by simp [bytesN_length]) ?_]
    · simp [encV, headV, bytesN, e3]
    · intro x hx
      simp only [List.nil_append, List.mem_append] at hx
      rcases hx with (z | z) | z
      · exact bytesN_byte 8 _ x z
      · exact bytesN_byte 8 _ x z
      · exact bytesN_byte 1 _ x z
  · have hf : tabOk b l L = false := by simpa using h
    rw [hf]; rfl
open Go.RowKit Go.Proofs.YtnlaiiophongmaaDoorW.PrintWords Go.Proofs.YtnlaiiophongmaaDoorW.PrintLast Go.Proofs.YtnlaiiophongmaaDoorW.PrintMore Go.Proofs.YtnlaiiophongmaaDoor.MCb

theorem conv_fact {w : World} {A : Option Addr} {n c : Nat} {l : List Int} (h : Sl w A n c l) : (convert 47 9 (.slice A n c)).run Tryd.prog w = .ok (.string (strOfNums l)) w := by
  have hcv := Kd.C_string (P := Tryd.prog) (A := A) (c := c) Tryd.underlying47 Tryd.underlying5 Tryd.underlying9 h.rd
  rwa [← h.len] at hcv
/-- the law's box of its table, and what lies below -/
structure L9 (w : World) (b l : Int) (A : Option Addr) (n c : Nat) (W : World) : Prop where
  bel : Below w.heap.size w W
  box : TabR W w.heap.size b l (.slice A n c)
theorem L9.step {w W W' : World} {b l : Int} {A : Option Addr} {n c : Nat} (h : L9 w b l A n c W) (hb : Below W.heap.size W W') : L9 w b l A n c W' := ⟨h.bel.trans (hb.mono h.bel.size), h.box.below hb⟩
/-- what was made on the way -/
structure F9 (A1 : Option Addr) (m1 c1 : Nat) (X : List Int) (gx gy : Nat) (e0 e1 : Int) (eL : List Int) (ne : Nat) (Ax : Option Addr) (cx : Nat) (Ay : Option Addr) (cy : Nat) (W : World) : Prop where
  sc : Sl W A1 m1 c1 X
  fx : (Kd.int .i64).C W Ax ne eL
  lx : ne ≤ cx
  tx : Tab W gx e0 e1 (.slice Ax ne cx)
  fy : (Kd.int .i64).C W Ay ne eL
  ly : ne ≤ cy
  ty : TabR W gy e0 e1 (.slice Ay ne cy)
theorem F9.step {W W' : World} {A1 Ax Ay : Option Addr} {m1 c1 gx gy ne cx cy : Nat} {X eL : List Int} {e0 e1 : Int} (h : F9 A1 m1 c1 X gx gy e0 e1 eL ne Ax cx Ay cy W) (hb : Below W.heap.size W W') : F9 A1 m1 c1 X gx gy e0 e1 eL ne Ax cx Ay cy W' :=
  ⟨h.sc.below hb, Kd.C_below h.fx hb, h.lx, h.tx.below hb, Kd.C_below h.fy hb, h.ly, h.ty.below hb⟩
theorem decR_len (r : List Int) : (decR r).1.2.2.length ≤ 300 := by
  unfold decR decRes
  split
  · split
    · show (tL _).length ≤ 300
      unfold tL; rw [vals_length]; have := tN_lt (openR 5 r).1; omega
    · simp
  · simp
theorem sure_at : _root_.Go.Proofs.YtnlaiiophongmaaDoor.MSu.fuseelaw09_sure.f 300 = some true := by decide +kernel
theorem sure_sl (w : World) (hg : HG w) : Calls Tryd.prog 47 #[] w fun e w' => e = .returned (.bool true) ∧ Below w.heap.size w w' := _root_.Go.Proofs.YtnlaiiophongmaaDoor.MSu.fuseelaw09_sure.calls 300 true w hg sure_at
set_option maxRecDepth 100000 in
set_option maxHeartbeats 8000000 in
theorem forms_walk (b l : Int) (A : Option Addr) (n c : Nat) (L : List Int) (B : Option Addr) (p d : Nat) (r : List Int) (w : World) (hg : HG w) (hRb : R64 b) (hRl : R64 l) (hRL : ∀ x ∈ L, R64 x) (hC : (Kd.int .i64).C w A L.length L) (hn : n = L.length) (hc : n ≤ c) (hb : Sl w B p d r) (hlb : ∀ x ∈ r, B8 x) :
    Calls Tryd.prog 13 #[.agg #[.int .i64 b, .int .i64 l, .slice A n c], .slice B p d] w fun e w' => e = .returned (.bool true) ∧ Below w.heap.size w w' := by
  have hS : Aside0 (∀ W, Below w.heap.size w W → Calls Tryd.prog 47 #[] W fun e w' => e = .returned (.bool true) ∧ Below W.heap.size W w') := ⟨fun W hB => sure_sl W (HG.below hg (Nat.le_refl _) hB)⟩
  by_cases hbad : 60 < n ∨ 600 < p
  · clear hC hb hlb hg hRb hRl hRL hn hc
    by_cases c1 : 60 < n
    · have f1 : (60 : Int) < (n : Int) := by omega
      clear hbad c1
      go_enter Tryd.func13, Tryd.ntmps13
      go_wp2_with (go_at_call 47; first | ((with_reducible refine (hS.out _ ?_).mono ?_); (· repeat (first | exact Below.refl _ _ | refine Below.drew ?_ | refine Below.alloc ?_ (Nat.le_refl _) _)); rintro e w2 ⟨rfl, hb2⟩; have hb2 := Aside0.mk hb2))
      go_ret
      exact ⟨rfl, (Below.alloc (Below.refl _ _) (Nat.le_refl _) _).trans (hb2.out.mono (by simp))⟩
    · have f1 : ¬ (60 : Int) < (n : Int) := by omega
      have f2 : (600 : Int) < (p : Int) := by omega
      clear hbad c1
      go_enter Tryd.func13, Tryd.ntmps13
      go_wp2_with (go_at_call 47; first | ((with_reducible refine (hS.out _ ?_).mono ?_); (· repeat (first | exact Below.refl _ _ | refine Below.drew ?_ | refine Below.alloc ?_ (Nat.le_refl _) _)); rintro e w2 ⟨rfl, hb2⟩; have hb2 := Aside0.mk hb2))
      go_ret
      exact ⟨rfl, (Below.alloc (Below.refl _ _) (Nat.le_refl _) _).trans (hb2.out.mono (by simp))⟩
  have f1 : ¬ (60 : Int) < (n : Int) := by omega
  have f2 : ¬ (600 : Int) < (p : Int) := by omega
  obtain ⟨e0, he0⟩ : ∃ x, x = (decR r).1.1 := ⟨_, rfl⟩
  obtain ⟨e1, he1⟩ : ∃ x, x = (decR r).1.2.1 := ⟨_, rfl⟩
  obtain ⟨eL, heL⟩ : ∃ x, x = (decR r).1.2.2 := ⟨_, rfl⟩
  obtain ⟨eo, heo⟩ : ∃ x, x = (decR r).2 := ⟨_, rfl⟩
  obtain ⟨ne, hne⟩ : ∃ x, x = eL.length := ⟨_, rfl⟩
  have hel : eL.length ≤ 300 := by rw [heL]; exact decR_len r
  have hD : Aside0 (∀ W, Below w.heap.size w W → Calls Tryd.prog 63 #[.slice B p d] W fun e w' => ∃ A' c', e = .returned (.tuple #[.agg #[.int .i64 e0, .int .i64 e1, .slice A' ne c'], errV eo]) ∧ (Kd.int .i64).C w' A' ne eL ∧ ne ≤ c' ∧ Below W.heap.size W w') := ⟨fun W hB => by
    rw [hne, he0, he1, heL, heo]; exact dec_walk (hb.below hB) hlb (by omega)⟩
  have hRD : Aside0 (∀ W, Below w.heap.size w W → Calls Tryd.prog 64 #[.slice B p d] W fun e w' => ∃ A' c', e = .returned (.tuple #[.agg #[.int .i64 e0, .int .i64 e1, .slice A' ne c'], .int .i64 (numE eo)]) ∧ (Kd.int .i64).C w' A' ne eL ∧ ne ≤ c' ∧ Below W.heap.size W w') := ⟨fun W hB => by
    rw [hne, he0, he1, heL, heo]; exact rdec_walk (hb.below hB) hlb (by omega)⟩
  have hI : Aside0 (∀ W A1 c1 A2 c2, (Kd.int .i64).C W A1 ne eL → ne ≤ c1 → (Kd.int .i64).C W A2 ne eL → ne ≤ c2 → Calls Tryd.prog 55 #[.agg #[.int .i64 e0, .int .i64 e1, .slice A1 ne c1], .agg #[.int .i64 e0, .int .i64 e1, .slice A2 ne c2]] W fun e w' => e = .returned (.bool true) ∧ Below W.heap.size W w') := ⟨fun W A1 c1 A2 c2 h1 h2 h3 h4 => by
    subst hne
    exact fuseelaw09_isTable.calls 400 e0 e1 A1 c1 eL e0 e1 A2 c2 eL true W h1 h2 h3 h4 (isTable_eq 400 e0 e1 eL hel (by omega))⟩
  have hN2 : Aside0 (∀ W, Below w.heap.size w W → Calls Tryd.prog 54 #[errV eo] W fun e w' => e = .returned (.int .i64 (numE eo)) ∧ Below W.heap.size W w') := ⟨fun W hB => fuseelaw09_num_calls eo W W (St.refl (HG.below hg (Nat.le_refl _) hB))⟩
  obtain ⟨X, hX⟩ : ∃ X, X = (encR b l L).1 := ⟨_, rfl⟩
  obtain ⟨m1, hm1⟩ : ∃ m, m = X.length := ⟨_, rfl⟩
  have hcn : n ≤ 300 := by omega
  have hE0 : ∀ W, Below w.heap.size w W → Calls Tryd.prog 61 #[.agg #[.int .i64 b, .int .i64 l, .slice A n c]] W fun e w' => ∃ A' c', e = .returned (.tuple #[.slice A' m1 c', errV (encR b l L).2]) ∧ Sl w' A' m1 c' X ∧ Below W.heap.size W w' := fun W hB => by
    subst hn
    refine (leap_Encode.calls 400 b l A c L (encR b l L).1 (encR b l L).2 W (Kd.C_below hC hB) hc (enc_eq 400 (by omega) b l L hcn)).mono ?_
    rintro e w' ⟨v, rfl, hR, hb⟩
    obtain ⟨A', c', rfl, hS⟩ := Sl.of_R hR (m := m1) (by rw [hm1, hX])
    exact ⟨A', c', by rw [(fun x => by cases x <;> rfl : ∀ x, errW x = errV x) (encR b l L).2], by rw [hX]; exact hS, hb⟩
  have hRE0 : ∀ W, Below w.heap.size w W → Calls Tryd.prog 62 #[.agg #[.int .i64 b, .int .i64 l, .slice A n c]] W fun e w' => ∃ A' c', e = .returned (.tuple #[.slice A' m1 c', .int .i64 (numE (encR b l L).2)]) ∧ Sl w' A' m1 c' X ∧ Below W.heap.size W w' := fun W hB => by
    subst hn
    refine (fuseeref09_Encode.calls 400 b l A c L (encR b l L).1 (numE (encR b l L).2) W (Kd.C_below hC hB) hc (renc_eq 400 (by omega) b l L hcn)).mono ?_
    rintro e w' ⟨v, rfl, hR, hb⟩
    obtain ⟨A', c', rfl, hS⟩ := Sl.of_R hR (m := m1) (by rw [hm1, hX])
    exact ⟨A', c', rfl, by rw [hX]; exact hS, hb⟩
  by_cases htab : tabOk b l L = true
  · have hq := encR_ok htab
    have hXl : m1 = 26 + 8 * n := by rw [hm1, hX, hq]; show (sealedL 5 (encV b l L)).length = _; rw [sealedL_len, encV_length, hn]; omega
    have hn32 : n ≤ 32 := by rw [hn]; exact tab_len htab
    have hXb : ∀ x ∈ X, B8 x := by rw [hX, hq]; exact sealedL_byte (by unfold B8; omega) (encV_byte b l L) (by rw [encV_length]; omega)
    have hdb : decR X = ((b, l, L), none) := by rw [hX]; exact dec_back hRb hRl hRL htab
    have hE : Aside0 (∀ W, Below w.heap.size w W → Calls Tryd.prog 61 #[.agg #[.int .i64 b, .int .i64 l, .slice A n c]] W fun e w' => ∃ A' c', e = .returned (.tuple #[.slice A' m1 c', .nilIface]) ∧ Sl w' A' m1 c' X ∧ Below W.heap.size W w') := ⟨fun W hB => by have := hE0 W hB; rw [hq] at this; exact this⟩
    have hRE : Aside0 (∀ W, Below w.heap.size w W → Calls Tryd.prog 62 #[.agg #[.int .i64 b, .int .i64 l, .slice A n c]] W fun e w' => ∃ A' c', e = .returned (.tuple #[.slice A' m1 c', .int .i64 0]) ∧ Sl w' A' m1 c' X ∧ Below W.heap.size W w') := ⟨fun W hB => by have := hRE0 W hB; rw [hq] at this; exact this⟩
    have hN1 : Aside0 (∀ W, Below w.heap.size w W → Calls Tryd.prog 54 #[.nilIface] W fun e w' => e = .returned (.int .i64 0) ∧ Below W.heap.size W w') := ⟨fun W hB => fuseelaw09_num_none W W (St.refl (HG.below hg (Nat.le_refl _) hB))⟩
    have hD2 : Aside0 (∀ W A1 c1, Sl W A1 m1 c1 X → Calls Tryd.prog 63 #[.slice A1 m1 c1] W fun e w' => ∃ A' c', e = .returned (.tuple #[.agg #[.int .i64 b, .int .i64 l, .slice A' n c'], .nilIface]) ∧ (Kd.int .i64).C w' A' n L ∧ n ≤ c' ∧ Below W.heap.size W w') := ⟨fun W A1 c1 h => by
      have := dec_walk h hXb (by omega)
      rw [hdb] at this
      rw [hn]
      exact this⟩
    have hI2 : Aside0 (∀ W A1 c1, (Kd.int .i64).C W A1 n L → n ≤ c1 → Below w.heap.size w W → Calls Tryd.prog 55 #[.agg #[.int .i64 b, .int .i64 l, .slice A1 n c1], .agg #[.int .i64 b, .int .i64 l, .slice A n c]] W fun e w' => e = .returned (.bool true) ∧ Below W.heap.size W w') := ⟨fun W A1 c1 h1 h2 hB => by
      subst hn
      exact fuseelaw09_isTable.calls 400 b l A1 c1 L b l A c L true W h1 h2 (Kd.C_below hC hB) hc (isTable_eq 400 b l L hcn (by omega))⟩
    clear hg hC hb hlb hRb hRl hRL hn hc he0 he1 heL heo hne hel hX hm1 hcn hE0 hRE0 htab hq hXl hn32 hXb hdb hbad
    go_enter Tryd.func13, Tryd.ntmps13
    go_upto_region 3 with (fail)
    obtain ⟨w1, hw1⟩ : ∃ w1, w1 = w.alloc (.cells #[.int .i64 b, .int .i64 l, .slice A n c] 95) := ⟨_, rfl⟩
    rw [← hw1]
    have hA1 : Below w.heap.size w w1 := by rw [hw1]; exact (Below.refl _ w).alloc (Nat.le_refl _) _
    have H1 := Aside0.mk (L9.mk (b := b) (l := l) (A := A) (n := n) (c := c) hA1 (by rw [hw1]; exact heap_alloc_new w _))
    clear hw1 hA1
    have k0 : w1.cell? ⟨w.heap.size, 0, none⟩ = some (.int .i64 b) := (blk_cell H1.out.box 0).trans rfl
    have k1 : w1.cell? ⟨w.heap.size, 1, none⟩ = some (.int .i64 l) := (blk_cell H1.out.box 1).trans rfl
    have k2 : w1.cell? ⟨w.heap.size, 2, none⟩ = some (.slice A n c) := (blk_cell H1.out.box 2).trans rfl
    go_upto_region 6 with (first
      | (go_at_call 61; (with_reducible refine (hE.out _ H1.out.bel).mono ?_); rintro e w2 ⟨A1, c1, rfl, h1, hb⟩; have H2 := Aside0.mk (H1.out.step hb); have S2 := Aside0.mk h1; (try clear k0 k1 k2); have k0 : w2.cell? ⟨w.heap.size, 0, none⟩ = some (.int .i64 b) := (blk_cell H2.out.box 0).trans rfl; have k1 : w2.cell? ⟨w.heap.size, 1, none⟩ = some (.int .i64 l) := (blk_cell H2.out.box 1).trans rfl; have k2 : w2.cell? ⟨w.heap.size, 2, none⟩ = some (.slice A n c) := (blk_cell H2.out.box 2).trans rfl; clear h1 hb)
      | (go_at_call 62; (with_reducible refine (hRE.out _ H2.out.bel).mono ?_); rintro e w3 ⟨A2, c2, rfl, h2, hb⟩; have H3 := Aside0.mk (H2.out.step hb); have S3 := Aside0.mk (And.intro (S2.out.below hb) h2); (try clear k0 k1 k2); have k0 : w3.cell? ⟨w.heap.size, 0, none⟩ = some (.int .i64 b) := (blk_cell H3.out.box 0).trans rfl; have k1 : w3.cell? ⟨w.heap.size, 1, none⟩ = some (.int .i64 l) := (blk_cell H3.out.box 1).trans rfl; have k2 : w3.cell? ⟨w.heap.size, 2, none⟩ = some (.slice A n c) := (blk_cell H3.out.box 2).trans rfl; clear h2 hb)
      | (go_at_call 63; (with_reducible refine (hD.out _ H3.out.bel).mono ?_); rintro e w4 ⟨Ax, cx, rfl, hCx, hcx, hb⟩; have H4 := Aside0.mk (H3.out.step hb); have S4 := Aside0.mk (And.intro (S3.out.1.below hb) (And.intro (S3.out.2.below hb) (And.intro hCx hcx))); (try clear k0 k1 k2); have k0 : w4.cell? ⟨w.heap.size, 0, none⟩ = some (.int .i64 b) := (blk_cell H4.out.box 0).trans rfl; have k1 : w4.cell? ⟨w.heap.size, 1, none⟩ = some (.int .i64 l) := (blk_cell H4.out.box 1).trans rfl; have k2 : w4.cell? ⟨w.heap.size, 2, none⟩ = some (.slice A n c) := (blk_cell H4.out.box 2).trans rfl; clear hCx hcx hb))
    obtain ⟨w5, hw5⟩ : ∃ w_, w_ = w4.alloc (.cells #[.int .i64 e0, .int .i64 e1, .slice Ax ne cx] 96) := ⟨_, rfl⟩
    obtain ⟨gx, hgx⟩ : ∃ g, g = w4.heap.size := ⟨_, rfl⟩
    rw [← hw5, ← hgx]
    have hA5 : Below w4.heap.size w4 w5 := by rw [hw5]; exact (Below.refl _ w4).alloc (Nat.le_refl _) _
    have H5 := Aside0.mk (H4.out.step hA5)
    have S5 := Aside0.mk (And.intro (S4.out.1.below hA5) (And.intro (S4.out.2.1.below hA5) (And.intro (Kd.C_below S4.out.2.2.1 hA5) (And.intro S4.out.2.2.2 (show Tab w5 gx e0 e1 (.slice Ax ne cx) by rw [hw5, hgx]; exact heap_alloc_new w4 _)))))
    clear hw5 hgx hA5
    clear k0 k1 k2
    have k0 : w5.cell? ⟨w.heap.size, 0, none⟩ = some (.int .i64 b) := (blk_cell H5.out.box 0).trans rfl
    have k1 : w5.cell? ⟨w.heap.size, 1, none⟩ = some (.int .i64 l) := (blk_cell H5.out.box 1).trans rfl
    have k2 : w5.cell? ⟨w.heap.size, 2, none⟩ = some (.slice A n c) := (blk_cell H5.out.box 2).trans rfl
    go_upto_region 7 with (go_at_call 64; (with_reducible refine (hRD.out _ H5.out.bel).mono ?_); rintro e w6 ⟨Ay, cy, rfl, hCy, hcy, hb⟩; have H6 := Aside0.mk (H5.out.step hb); have S6 := Aside0.mk (And.intro (S5.out.1.below hb) (And.intro (S5.out.2.1.below hb) (And.intro (Kd.C_below S5.out.2.2.1 hb) (And.intro S5.out.2.2.2.1 (And.intro (S5.out.2.2.2.2.below hb) (And.intro hCy hcy)))))); (try clear k0 k1 k2); have k0 : w6.cell? ⟨w.heap.size, 0, none⟩ = some (.int .i64 b) := (blk_cell H6.out.box 0).trans rfl; have k1 : w6.cell? ⟨w.heap.size, 1, none⟩ = some (.int .i64 l) := (blk_cell H6.out.box 1).trans rfl; have k2 : w6.cell? ⟨w.heap.size, 2, none⟩ = some (.slice A n c) := (blk_cell H6.out.box 2).trans rfl; clear hCy hcy hb)
    obtain ⟨w7, hw7⟩ : ∃ w_, w_ = w6.alloc (.cells #[.int .i64 e0, .int .i64 e1, .slice Ay ne cy] 95) := ⟨_, rfl⟩
    obtain ⟨gy, hgy⟩ : ∃ g, g = w6.heap.size := ⟨_, rfl⟩
    rw [← hw7, ← hgy]
    have hA7 : Below w6.heap.size w6 w7 := by rw [hw7]; exact (Below.refl _ w6).alloc (Nat.le_refl _) _
    have H7 := Aside0.mk (H6.out.step hA7)
    have S7 := Aside0.mk (F9.mk (S6.out.1.below hA7) (Kd.C_below S6.out.2.2.1 hA7) S6.out.2.2.2.1 (S6.out.2.2.2.2.1.below hA7) (Kd.C_below S6.out.2.2.2.2.2.1 hA7) S6.out.2.2.2.2.2.2 (show TabR w7 gy e0 e1 (.slice Ay ne cy) by rw [hw7, hgy]; exact heap_alloc_new w6 _))
    have hv1 := conv_fact S7.out.sc
    have hv2 := conv_fact (S6.out.2.1.below hA7)
    clear hw7 hgy hA7
    clear k0 k1 k2
    have k0 : w7.cell? ⟨w.heap.size, 0, none⟩ = some (.int .i64 b) := (blk_cell H7.out.box 0).trans rfl
    have k1 : w7.cell? ⟨w.heap.size, 1, none⟩ = some (.int .i64 l) := (blk_cell H7.out.box 1).trans rfl
    have k2 : w7.cell? ⟨w.heap.size, 2, none⟩ = some (.slice A n c) := (blk_cell H7.out.box 2).trans rfl
    have x0 : w7.cell? ⟨gx, 0, none⟩ = some (.int .i64 e0) := (blk_cell S7.out.tx 0).trans rfl
    have x1 : w7.cell? ⟨gx, 1, none⟩ = some (.int .i64 e1) := (blk_cell S7.out.tx 1).trans rfl
    have x2 : w7.cell? ⟨gx, 2, none⟩ = some (.slice Ax ne cx) := (blk_cell S7.out.tx 2).trans rfl
    have y0 : w7.cell? ⟨gy, 0, none⟩ = some (.int .i64 e0) := (blk_cell S7.out.ty 0).trans rfl
    have y1 : w7.cell? ⟨gy, 1, none⟩ = some (.int .i64 e1) := (blk_cell S7.out.ty 1).trans rfl
    have y2 : w7.cell? ⟨gy, 2, none⟩ = some (.slice Ay ne cy) := (blk_cell S7.out.ty 2).trans rfl
    go_upto_region 12 with (first
      | (go_at_call 54; first
        | ((with_reducible refine (hN1.out _ H7.out.bel).mono ?_); rintro e w8 ⟨rfl, hb⟩; have H8 := Aside0.mk (H7.out.step hb); have S8 := Aside0.mk (S7.out.step hb); (try clear k0 k1 k2); have k0 : w8.cell? ⟨w.heap.size, 0, none⟩ = some (.int .i64 b) := (blk_cell H8.out.box 0).trans rfl; have k1 : w8.cell? ⟨w.heap.size, 1, none⟩ = some (.int .i64 l) := (blk_cell H8.out.box 1).trans rfl; have k2 : w8.cell? ⟨w.heap.size, 2, none⟩ = some (.slice A n c) := (blk_cell H8.out.box 2).trans rfl; (try clear x0 x1 x2); have x0 : w8.cell? ⟨gx, 0, none⟩ = some (.int .i64 e0) := (blk_cell S8.out.tx 0).trans rfl; have x1 : w8.cell? ⟨gx, 1, none⟩ = some (.int .i64 e1) := (blk_cell S8.out.tx 1).trans rfl; have x2 : w8.cell? ⟨gx, 2, none⟩ = some (.slice Ax ne cx) := (blk_cell S8.out.tx 2).trans rfl; (try clear y0 y1 y2); have y0 : w8.cell? ⟨gy, 0, none⟩ = some (.int .i64 e0) := (blk_cell S8.out.ty 0).trans rfl; have y1 : w8.cell? ⟨gy, 1, none⟩ = some (.int .i64 e1) := (blk_cell S8.out.ty 1).trans rfl; have y2 : w8.cell? ⟨gy, 2, none⟩ = some (.slice Ay ne cy) := (blk_cell S8.out.ty 2).trans rfl; clear hb hv1 hv2)
        | ((with_reducible refine (hN2.out _ H9.out.bel).mono ?_); rintro e w10 ⟨rfl, hb⟩; have H10 := Aside0.mk (H9.out.step hb); have S10 := Aside0.mk (S9.out.step hb); (try clear k0 k1 k2); have k0 : w10.cell? ⟨w.heap.size, 0, none⟩ = some (.int .i64 b) := (blk_cell H10.out.box 0).trans rfl; have k1 : w10.cell? ⟨w.heap.size, 1, none⟩ = some (.int .i64 l) := (blk_cell H10.out.box 1).trans rfl; have k2 : w10.cell? ⟨w.heap.size, 2, none⟩ = some (.slice A n c) := (blk_cell H10.out.box 2).trans rfl; clear hb))
      | (go_at_call 55; (with_reducible refine (hI.out _ Ax cx Ay cy S8.out.fx S8.out.lx S8.out.fy S8.out.ly).mono ?_); rintro e w9 ⟨rfl, hb⟩; have H9 := Aside0.mk (H8.out.step hb); have S9 := Aside0.mk (S8.out.step hb); (try clear k0 k1 k2); have k0 : w9.cell? ⟨w.heap.size, 0, none⟩ = some (.int .i64 b) := (blk_cell H9.out.box 0).trans rfl; have k1 : w9.cell? ⟨w.heap.size, 1, none⟩ = some (.int .i64 l) := (blk_cell H9.out.box 1).trans rfl; have k2 : w9.cell? ⟨w.heap.size, 2, none⟩ = some (.slice A n c) := (blk_cell H9.out.box 2).trans rfl; clear hb)
      | (go_at_call 63; (with_reducible refine (hD2.out _ A1 c1 S10.out.sc).mono ?_); rintro e w11 ⟨Az, cz, rfl, hCz, hcz, hb⟩; have H11 := Aside0.mk (H10.out.step hb); have S11 := Aside0.mk (And.intro hCz hcz); (try clear k0 k1 k2); have k0 : w11.cell? ⟨w.heap.size, 0, none⟩ = some (.int .i64 b) := (blk_cell H11.out.box 0).trans rfl; have k1 : w11.cell? ⟨w.heap.size, 1, none⟩ = some (.int .i64 l) := (blk_cell H11.out.box 1).trans rfl; have k2 : w11.cell? ⟨w.heap.size, 2, none⟩ = some (.slice A n c) := (blk_cell H11.out.box 2).trans rfl; clear hCz hcz hb))
    obtain ⟨w12, hw12⟩ : ∃ w_, w_ = w11.alloc (.cells #[.int .i64 b, .int .i64 l, .slice Az n cz] 96) := ⟨_, rfl⟩
    obtain ⟨gz, hgz⟩ : ∃ g, g = w11.heap.size := ⟨_, rfl⟩
    rw [← hw12, ← hgz]
    have hA12 : Below w11.heap.size w11 w12 := by rw [hw12]; exact (Below.refl _ w11).alloc (Nat.le_refl _) _
    have H12 := Aside0.mk (H11.out.step hA12)
    have S12 := Aside0.mk (And.intro (Kd.C_below S11.out.1 hA12) (And.intro S11.out.2 (show Tab w12 gz b l (.slice Az n cz) by rw [hw12, hgz]; exact heap_alloc_new w11 _)))
    clear hw12 hgz hA12
    clear k0 k1 k2
    have k0 : w12.cell? ⟨w.heap.size, 0, none⟩ = some (.int .i64 b) := (blk_cell H12.out.box 0).trans rfl
    have k1 : w12.cell? ⟨w.heap.size, 1, none⟩ = some (.int .i64 l) := (blk_cell H12.out.box 1).trans rfl
    have k2 : w12.cell? ⟨w.heap.size, 2, none⟩ = some (.slice A n c) := (blk_cell H12.out.box 2).trans rfl
    have z0 : w12.cell? ⟨gz, 0, none⟩ = some (.int .i64 b) := (blk_cell S12.out.2.2 0).trans rfl
    have z1 : w12.cell? ⟨gz, 1, none⟩ = some (.int .i64 l) := (blk_cell S12.out.2.2 1).trans rfl
    have z2 : w12.cell? ⟨gz, 2, none⟩ = some (.slice Az n cz) := (blk_cell S12.out.2.2 2).trans rfl
    go_wp2_with (first
      | (go_at_call 55; (with_reducible refine (hI2.out _ Az cz S12.out.1 S12.out.2.1 H12.out.bel).mono ?_); rintro e w13 ⟨rfl, hb⟩; have H13 := Aside0.mk (H12.out.step hb); clear hb)
      | (go_at_call 47; (with_reducible refine (hS.out _ H13.out.bel).mono ?_); rintro e w14 ⟨rfl, hb⟩; have H14 := Aside0.mk (H13.out.step hb); clear hb))
    go_ret
    exact ⟨rfl, H14.out.bel⟩
  · have hq : encR b l L = ([], some 1) := by unfold encR; rw [if_neg htab]
    have hE : Aside0 (∀ W, Below w.heap.size w W → Calls Tryd.prog 61 #[.agg #[.int .i64 b, .int .i64 l, .slice A n c]] W fun e w' => ∃ A' c', e = .returned (.tuple #[.slice A' m1 c', .iface 128 (.int .i64 1)]) ∧ Sl w' A' m1 c' X ∧ Below W.heap.size W w') := ⟨fun W hB => by have := hE0 W hB; rw [hq] at this; exact this⟩
    have hRE : Aside0 (∀ W, Below w.heap.size w W → Calls Tryd.prog 62 #[.agg #[.int .i64 b, .int .i64 l, .slice A n c]] W fun e w' => ∃ A' c', e = .returned (.tuple #[.slice A' m1 c', .int .i64 1]) ∧ Sl w' A' m1 c' X ∧ Below W.heap.size W w') := ⟨fun W hB => by have := hRE0 W hB; rw [hq] at this; exact this⟩
    have hN1 : Aside0 (∀ W, Below w.heap.size w W → Calls Tryd.prog 54 #[.iface 128 (.int .i64 1)] W fun e w' => e = .returned (.int .i64 1) ∧ Below W.heap.size W w') := ⟨fun W hB => fuseelaw09_num_some 1 W W (St.refl (HG.below hg (Nat.le_refl _) hB))⟩
    clear hg hC hb hlb hRb hRl hRL hn hc he0 he1 heL heo hne hel hX hm1 hcn hE0 hRE0 htab hq hbad
    go_enter Tryd.func13, Tryd.ntmps13
    go_upto_region 3 with (fail)
    obtain ⟨w1, hw1⟩ : ∃ w1, w1 = w.alloc (.cells #[.int .i64 b, .int .i64 l, .slice A n c] 95) := ⟨_, rfl⟩
    rw [← hw1]
    have hA1 : Below w.heap.size w w1 := by rw [hw1]; exact (Below.refl _ w).alloc (Nat.le_refl _) _
    have H1 := Aside0.mk (L9.mk (b := b) (l := l) (A := A) (n := n) (c := c) hA1 (by rw [hw1]; exact heap_alloc_new w _))
    clear hw1 hA1
    have k0 : w1.cell? ⟨w.heap.size, 0, none⟩ = some (.int .i64 b) := (blk_cell H1.out.box 0).trans rfl
    have k1 : w1.cell? ⟨w.heap.size, 1, none⟩ = some (.int .i64 l) := (blk_cell H1.out.box 1).trans rfl
    have k2 : w1.cell? ⟨w.heap.size, 2, none⟩ = some (.slice A n c) := (blk_cell H1.out.box 2).trans rfl
    go_upto_region 6 with (first
      | (go_at_call 61; (with_reducible refine (hE.out _ H1.out.bel).mono ?_); rintro e w2 ⟨A1, c1, rfl, h1, hb⟩; have H2 := Aside0.mk (H1.out.step hb); have S2 := Aside0.mk h1; (try clear k0 k1 k2); have k0 : w2.cell? ⟨w.heap.size, 0, none⟩ = some (.int .i64 b) := (blk_cell H2.out.box 0).trans rfl; have k1 : w2.cell? ⟨w.heap.size, 1, none⟩ = some (.int .i64 l) := (blk_cell H2.out.box 1).trans rfl; have k2 : w2.cell? ⟨w.heap.size, 2, none⟩ = some (.slice A n c) := (blk_cell H2.out.box 2).trans rfl; clear h1 hb)
      | (go_at_call 62; (with_reducible refine (hRE.out _ H2.out.bel).mono ?_); rintro e w3 ⟨A2, c2, rfl, h2, hb⟩; have H3 := Aside0.mk (H2.out.step hb); have S3 := Aside0.mk (And.intro (S2.out.below hb) h2); (try clear k0 k1 k2); have k0 : w3.cell? ⟨w.heap.size, 0, none⟩ = some (.int .i64 b) := (blk_cell H3.out.box 0).trans rfl; have k1 : w3.cell? ⟨w.heap.size, 1, none⟩ = some (.int .i64 l) := (blk_cell H3.out.box 1).trans rfl; have k2 : w3.cell? ⟨w.heap.size, 2, none⟩ = some (.slice A n c) := (blk_cell H3.out.box 2).trans rfl; clear h2 hb)
      | (go_at_call 63; (with_reducible refine (hD.out _ H3.out.bel).mono ?_); rintro e w4 ⟨Ax, cx, rfl, hCx, hcx, hb⟩; have H4 := Aside0.mk (H3.out.step hb); have S4 := Aside0.mk (And.intro (S3.out.1.below hb) (And.intro (S3.out.2.below hb) (And.intro hCx hcx))); (try clear k0 k1 k2); have k0 : w4.cell? ⟨w.heap.size, 0, none⟩ = some (.int .i64 b) := (blk_cell H4.out.box 0).trans rfl; have k1 : w4.cell? ⟨w.heap.size, 1, none⟩ = some (.int .i64 l) := (blk_cell H4.out.box 1).trans rfl; have k2 : w4.cell? ⟨w.heap.size, 2, none⟩ = some (.slice A n c) := (blk_cell H4.out.box 2).trans rfl; clear hCx hcx hb))
    obtain ⟨w5, hw5⟩ : ∃ w_, w_ = w4.alloc (.cells #[.int .i64 e0, .int .i64 e1, .slice Ax ne cx] 96) := ⟨_, rfl⟩
    obtain ⟨gx, hgx⟩ : ∃ g, g = w4.heap.size := ⟨_, rfl⟩
    rw [← hw5, ← hgx]
    have hA5 : Below w4.heap.size w4 w5 := by rw [hw5]; exact (Below.refl _ w4).alloc (Nat.le_refl _) _
    have H5 := Aside0.mk (H4.out.step hA5)
    have S5 := Aside0.mk (And.intro (S4.out.1.below hA5) (And.intro (S4.out.2.1.below hA5) (And.intro (Kd.C_below S4.out.2.2.1 hA5) (And.intro S4.out.2.2.2 (show Tab w5 gx e0 e1 (.slice Ax ne cx) by rw [hw5, hgx]; exact heap_alloc_new w4 _)))))
    clear hw5 hgx hA5
    clear k0 k1 k2
    have k0 : w5.cell? ⟨w.heap.size, 0, none⟩ = some (.int .i64 b) := (blk_cell H5.out.box 0).trans rfl
    have k1 : w5.cell? ⟨w.heap.size, 1, none⟩ = some (.int .i64 l) := (blk_cell H5.out.box 1).trans rfl
    have k2 : w5.cell? ⟨w.heap.size, 2, none⟩ = some (.slice A n c) := (blk_cell H5.out.box 2).trans rfl
    go_upto_region 7 with (go_at_call 64; (with_reducible refine (hRD.out _ H5.out.bel).mono ?_); rintro e w6 ⟨Ay, cy, rfl, hCy, hcy, hb⟩; have H6 := Aside0.mk (H5.out.step hb); have S6 := Aside0.mk (And.intro (S5.out.1.below hb) (And.intro (S5.out.2.1.below hb) (And.intro (Kd.C_below S5.out.2.2.1 hb) (And.intro S5.out.2.2.2.1 (And.intro (S5.out.2.2.2.2.below hb) (And.intro hCy hcy)))))); (try clear k0 k1 k2); have k0 : w6.cell? ⟨w.heap.size, 0, none⟩ = some (.int .i64 b) := (blk_cell H6.out.box 0).trans rfl; have k1 : w6.cell? ⟨w.heap.size, 1, none⟩ = some (.int .i64 l) := (blk_cell H6.out.box 1).trans rfl; have k2 : w6.cell? ⟨w.heap.size, 2, none⟩ = some (.slice A n c) := (blk_cell H6.out.box 2).trans rfl; clear hCy hcy hb)
    obtain ⟨w7, hw7⟩ : ∃ w_, w_ = w6.alloc (.cells #[.int .i64 e0, .int .i64 e1, .slice Ay ne cy] 95) := ⟨_, rfl⟩
    obtain ⟨gy, hgy⟩ : ∃ g, g = w6.heap.size := ⟨_, rfl⟩
    rw [← hw7, ← hgy]
    have hA7 : Below w6.heap.size w6 w7 := by rw [hw7]; exact (Below.refl _ w6).alloc (Nat.le_refl _) _
    have H7 := Aside0.mk (H6.out.step hA7)
    have S7 := Aside0.mk (F9.mk (S6.out.1.below hA7) (Kd.C_below S6.out.2.2.1 hA7) S6.out.2.2.2.1 (S6.out.2.2.2.2.1.below hA7) (Kd.C_below S6.out.2.2.2.2.2.1 hA7) S6.out.2.2.2.2.2.2 (show TabR w7 gy e0 e1 (.slice Ay ne cy) by rw [hw7, hgy]; exact heap_alloc_new w6 _))
    have hv1 := conv_fact S7.out.sc
    have hv2 := conv_fact (S6.out.2.1.below hA7)
    clear hw7 hgy hA7
    clear k0 k1 k2
    have k0 : w7.cell? ⟨w.heap.size, 0, none⟩ = some (.int .i64 b) := (blk_cell H7.out.box 0).trans rfl
    have k1 : w7.cell? ⟨w.heap.size, 1, none⟩ = some (.int .i64 l) := (blk_cell H7.out.box 1).trans rfl
    have k2 : w7.cell? ⟨w.heap.size, 2, none⟩ = some (.slice A n c) := (blk_cell H7.out.box 2).trans rfl
    have x0 : w7.cell? ⟨gx, 0, none⟩ = some (.int .i64 e0) := (blk_cell S7.out.tx 0).trans rfl
    have x1 : w7.cell? ⟨gx, 1, none⟩ = some (.int .i64 e1) := (blk_cell S7.out.tx 1).trans rfl
    have x2 : w7.cell? ⟨gx, 2, none⟩ = some (.slice Ax ne cx) := (blk_cell S7.out.tx 2).trans rfl
    have y0 : w7.cell? ⟨gy, 0, none⟩ = some (.int .i64 e0) := (blk_cell S7.out.ty 0).trans rfl
    have y1 : w7.cell? ⟨gy, 1, none⟩ = some (.int .i64 e1) := (blk_cell S7.out.ty 1).trans rfl
    have y2 : w7.cell? ⟨gy, 2, none⟩ = some (.slice Ay ne cy) := (blk_cell S7.out.ty 2).trans rfl
    go_upto_region 10 with (first
      | (go_at_call 54; first
        | ((with_reducible refine (hN1.out _ H7.out.bel).mono ?_); rintro e w8 ⟨rfl, hb⟩; have H8 := Aside0.mk (H7.out.step hb); have S8 := Aside0.mk (S7.out.step hb); (try clear k0 k1 k2); have k0 : w8.cell? ⟨w.heap.size, 0, none⟩ = some (.int .i64 b) := (blk_cell H8.out.box 0).trans rfl; have k1 : w8.cell? ⟨w.heap.size, 1, none⟩ = some (.int .i64 l) := (blk_cell H8.out.box 1).trans rfl; have k2 : w8.cell? ⟨w.heap.size, 2, none⟩ = some (.slice A n c) := (blk_cell H8.out.box 2).trans rfl; (try clear x0 x1 x2); have x0 : w8.cell? ⟨gx, 0, none⟩ = some (.int .i64 e0) := (blk_cell S8.out.tx 0).trans rfl; have x1 : w8.cell? ⟨gx, 1, none⟩ = some (.int .i64 e1) := (blk_cell S8.out.tx 1).trans rfl; have x2 : w8.cell? ⟨gx, 2, none⟩ = some (.slice Ax ne cx) := (blk_cell S8.out.tx 2).trans rfl; (try clear y0 y1 y2); have y0 : w8.cell? ⟨gy, 0, none⟩ = some (.int .i64 e0) := (blk_cell S8.out.ty 0).trans rfl; have y1 : w8.cell? ⟨gy, 1, none⟩ = some (.int .i64 e1) := (blk_cell S8.out.ty 1).trans rfl; have y2 : w8.cell? ⟨gy, 2, none⟩ = some (.slice Ay ne cy) := (blk_cell S8.out.ty 2).trans rfl; clear hb hv1 hv2)
        | ((with_reducible refine (hN2.out _ H9.out.bel).mono ?_); rintro e w10 ⟨rfl, hb⟩; have H10 := Aside0.mk (H9.out.step hb); have S10 := Aside0.mk (S9.out.step hb); (try clear k0 k1 k2); have k0 : w10.cell? ⟨w.heap.size, 0, none⟩ = some (.int .i64 b) := (blk_cell H10.out.box 0).trans rfl; have k1 : w10.cell? ⟨w.heap.size, 1, none⟩ = some (.int .i64 l) := (blk_cell H10.out.box 1).trans rfl; have k2 : w10.cell? ⟨w.heap.size, 2, none⟩ = some (.slice A n c) := (blk_cell H10.out.box 2).trans rfl; clear hb))
      | (go_at_call 55; (with_reducible refine (hI.out _ Ax cx Ay cy S8.out.fx S8.out.lx S8.out.fy S8.out.ly).mono ?_); rintro e w9 ⟨rfl, hb⟩; have H9 := Aside0.mk (H8.out.step hb); have S9 := Aside0.mk (S8.out.step hb); (try clear k0 k1 k2); have k0 : w9.cell? ⟨w.heap.size, 0, none⟩ = some (.int .i64 b) := (blk_cell H9.out.box 0).trans rfl; have k1 : w9.cell? ⟨w.heap.size, 1, none⟩ = some (.int .i64 l) := (blk_cell H9.out.box 1).trans rfl; have k2 : w9.cell? ⟨w.heap.size, 2, none⟩ = some (.slice A n c) := (blk_cell H9.out.box 2).trans rfl; clear hb))
    go_wp2_with (go_at_call 47; (with_reducible refine (hS.out _ H10.out.bel).mono ?_); rintro e w11 ⟨rfl, hb⟩; have H11 := Aside0.mk (H10.out.step hb); clear hb)
    go_ret
    exact ⟨rfl, H11.out.bel⟩
end Go.Proofs.YtnlaiiophongmaaDoor.ML9
