/-
  The law FieldsTake, walked.
-/
import Derived.Test.YtiljnlhmeolhfaaDoorF5X
import Derived.LoopTactic
namespace Go.Proofs.YtiljnlhmeolhfaaDoor.MFd
open Go.RowKit Go.Proofs.YtiljnlhmeolhfaaDoorW.PrintWords Go.Proofs.YtiljnlhmeolhfaaDoorW.PrintLast Go.Proofs.YtiljnlhmeolhfaaDoorW.PrintMore
set_option linter.unusedVariables false
set_option linter.unusedSimpArgs false

set_option maxRecDepth 100000 in
set_option maxHeartbeats 8000000 in
theorem tk_walk (A Ak : Option Addr) (n c nk ck : Nat) (l kk : List Int) (w : World) (hg : HG w) (h : Sl w A n c l) (hk : Sl w Ak nk ck kk) (hby : ∀ x ∈ l, 0 ≤ x ∧ x < 256) (hkb : ∀ x ∈ kk, 0 ≤ x ∧ x < 256) :
    Calls Tryd.prog 7 #[.slice A n c, .slice Ak nk ck] w fun e w' => e = .returned (.bool true) ∧ Below w.heap.size w w' := by
  by_cases hb : 600 < n ∨ 200 < nk
  · have hS := sure05 w hg
    clear h hg hk
    by_cases h1 : 600 < n
    · have h1' : (600 : Int) < (n : Int) := by omega
      clear hb h1
      go_enter Tryd.func7, Tryd.ntmps7
      go_wp2_with (go_at_call 22; (with_reducible refine hS.mono ?_); rintro e w2 ⟨rfl, hb2⟩)
      go_ret
      exact ⟨rfl, hb2⟩
    · have h1' : ¬ (600 : Int) < (n : Int) := by omega
      have h2' : (200 : Int) < (nk : Int) := by omega
      clear hb h1
      go_enter Tryd.func7, Tryd.ntmps7
      go_wp2_with (go_at_call 22; (with_reducible refine hS.mono ?_); rintro e w2 ⟨rfl, hb2⟩)
      go_ret
      exact ⟨rfl, hb2⟩
  have h1' : ¬ (600 : Int) < (n : Int) := by omega
  have h2' : ¬ (200 : Int) < (nk : Int) := by omega
  have hnk : Aside0 (nk = kk.length) := ⟨hk.len⟩
  have hNew : ∀ W, Sl W A n c l → Calls Tryd.prog 30 #[.slice A n c] W fun e w' => ∃ g, e = .returned (.pointer (some ⟨g, 0, none⟩)) ∧ W.heap.size ≤ g ∧ Rdr w' g l false ∧ Below W.heap.size W w' := fun W h => new_sl h (by have := h.len; omega)
  have hNum : ∀ W, HG W → Calls Tryd.prog 29 #[.iface 75 (.int .i64 3)] W fun e w' => e = .returned (.int .i64 3) ∧ Below W.heap.size W w' := fun W hg => fuseelaw05_num_some 3 W W (St.refl hg)
  have fA : ∀ a, A = some a → 0 < n → a.block < w.heap.size := fun a e hp => h.lt e hp
  have fK : ∀ a, Ak = some a → 0 < nk → a.block < w.heap.size := fun a e hp => hk.lt e hp
  have H0 := Lib.hid (And.intro hg (And.intro h (And.intro hk (And.intro hby (And.intro hkb (And.intro hb (And.intro fA fK)))))))
  have hNewH := Aside0.mk hNew
  have hNumH := Aside0.mk hNum
  clear hg h hk hby hkb hb fA fK hNew hNum
  go_enter Tryd.func7, Tryd.ntmps7
  go_wp2_with (first
    | (go_at_call 36; (with_reducible refine (u8_nil _).mono ?_); rintro e w1 ⟨rfl, hb1⟩; have B1 := Aside0.mk hb1; clear hb1)
    | (go_at_call 31; (with_reducible refine (u16_nil _).mono ?_); rintro e w2 ⟨rfl, hb2⟩; have B2 := Aside0.mk (B1.out.trans (hb2.mono B1.out.size)); clear hb2)
    | (go_at_call 32; (with_reducible refine (u32_nil _).mono ?_); rintro e w3 ⟨rfl, hb3⟩; have B3 := Aside0.mk (B2.out.trans (hb3.mono B2.out.size)); clear hb3)
    | (go_at_call 33; (with_reducible refine (i64_nil _).mono ?_); rintro e w4 ⟨rfl, hb4⟩; have B4 := Aside0.mk (B3.out.trans (hb4.mono B3.out.size)); clear hb4)
    | (go_at_call 34; (with_reducible refine (text_nil _).mono ?_); rintro e w5 ⟨rfl, hb5⟩; have B5 := Aside0.mk (B4.out.trans (hb5.mono B4.out.size)); clear hb5)
    | (go_at_call 37; (with_reducible refine (left_nil _).mono ?_); rintro e w0 ⟨rfl, rfl⟩)
    | (go_at_call 35; (with_reducible refine (done_nil _).mono ?_); rintro e w0 ⟨rfl, rfl⟩)
    | (go_at_call 29; (with_reducible refine (hNumH.out _ (H0.out.1.below (Nat.le_refl _) B5.out)).mono ?_); rintro e w6 ⟨rfl, hb6⟩; have B6 := Aside0.mk (B5.out.trans (hb6.mono B5.out.size)); clear hb6)
    | (go_at_call 30; (with_reducible refine (hNewH.out _ (H0.out.2.1.below B6.out)).mono ?_); rintro e w7 ⟨g, rfl, hg7, hr7, hb7⟩; have H7 := Aside0.mk (And.intro hg7 (And.intro hr7 (B6.out.trans (hb7.mono B6.out.size)))); clear hg7 hr7 hb7))
  obtain ⟨w8, hw8⟩ : ∃ w8, w8 = w7.alloc (.cells #[.slice A n c, .bool false] 60) := ⟨_, rfl⟩
  obtain ⟨gx, hgx⟩ : ∃ gx, gx = w7.heap.size := ⟨_, rfl⟩
  rw [← hw8, ← hgx]
  have h78 : Below w7.heap.size w7 w8 := by rw [hw8]; exact (Below.refl _ w7).alloc (Nat.le_refl _) _
  have hB8 : Below w.heap.size w w8 := H7.out.2.2.trans (h78.mono H7.out.2.2.size)
  have hg0 : w.heap.size ≤ g := Nat.le_trans B6.out.size H7.out.1
  have hgg : g ≠ gx := by have := H7.out.2.1.lt; omega
  have hTX : TX w gx Ak nk ck kk w8 l false A n c := ⟨by rw [hw8, hgx]; exact heap_alloc_new w7 _, H0.out.2.1.below hB8, H0.out.2.2.2.2.2.2.1, H0.out.2.2.2.1, by have := H0.out.2.2.2.2.2.1; omega, hB8, H0.out.2.2.1.below hB8, H0.out.2.2.2.2.2.2.2, by rw [hgx]; exact H7.out.2.2.size⟩
  have hRd : Rdr w8 g l false := H7.out.2.1.below h78
  have HS := Aside0.mk (And.intro hTX (And.intro hRd (And.intro hg0 (And.intro hgg H0.out.1))))
  have HK := Aside0.mk (And.intro H0.out.2.2.2.2.1 (show nk ≤ 200 by have := H0.out.2.2.2.2.2.1; omega))
  have HG := Aside0.mk (And.intro hg0 hgg)
  have HH := Aside0.mk H0.out.1
  clear B1 B2 B3 B4 B5 B6 H7 hw8 hgx h78 hB8 hg0 hgg hTX hRd H0 h1' h2'
  go_loopw [8] (fun v8 wr => ∃ (j : Nat) (L : List Int) (bad : Bool) (A' : Option Addr) (m c' : Nat), v8 = .int .i64 j ∧ Aside0 (j ≤ nk ∧ TX w gx Ak nk ck kk wr L bad A' m c' ∧ Rdr wr g L bad))
    (fun v8 _ => match v8 with | .int _ x => nk - x.toNat | _ => 0)
  case atStart => exact ⟨0, l, false, A, n, c, rfl, ⟨Nat.zero_le _, HS.out.1, HS.out.2.1⟩⟩
  case round =>
    obtain ⟨j, L, bad, A', m, c', rfl, HI⟩ := hrel
    by_cases hj : (j : Int) < (nk : Int)
    · have hq : (j : Int) < (kk.length : Int) := by have := hnk.out; omega
      obtain ⟨ad, e_, hx0⟩ := Kd.at_int HI.out.2.1.kinds.rd (j : Int) (by omega) hq
      obtain ⟨q, hqd⟩ : ∃ q, q = rd kk (j : Int) := ⟨_, rfl⟩
      rw [← hqd, Int.toNat_natCast] at hx0
      have hqb : 0 ≤ q ∧ q < 256 := by
        have hjj : j < kk.length := by omega
        have : q = kk[j] := by rw [hqd]; unfold rd; simp [List.getD, List.getElem?_eq_getElem hjj]
        rw [this]; exact HK.out.1 _ (List.getElem_mem hjj)
      have HQ := Aside0.mk hqd
      subst e_
      clear hq hqd
      go_upto_block 2 with fail
      go_cut [9, 10, 11, 12] from 67 to 118 (fun v9 v10 v11 v12 wc => ∃ (v : Int) (s : ByteArray) (L : List Int) (bad : Bool) (A' : Option Addr) (m c' : Nat), v9 = .int .u64 v ∧ v10 = .string s ∧ v11 = .int .u64 v ∧ v12 = .string s ∧ Aside0 (TX w gx (some ad) nk ck kk wc L bad A' m c' ∧ Rdr wc g L bad))
      case first =>
        obtain ⟨v1, hv1⟩ : ∃ v, v = rdNum L bad 1 := ⟨_, rfl⟩
        obtain ⟨v2, hv2⟩ : ∃ v, v = rdNum L bad 2 := ⟨_, rfl⟩
        obtain ⟨v4, hv4⟩ : ∃ v, v = rdNum L bad 4 := ⟨_, rfl⟩
        obtain ⟨v8, hv8⟩ : ∃ v, v = rdNum L bad 8 := ⟨_, rfl⟩
        obtain ⟨z8, hz8⟩ : ∃ v, v = wrap64 (rdNum L bad 8) := ⟨_, rfl⟩
        have b1 := rdNum_lt L bad 1 (by omega) HI.out.2.1.by_
        have b2 := rdNum_lt L bad 2 (by omega) HI.out.2.1.by_
        have b4 := rdNum_lt L bad 4 (by omega) HI.out.2.1.by_
        have b8 := rdNum_lt L bad 8 (by omega) HI.out.2.1.by_
        rw [← hv1] at b1
        rw [← hv2] at b2
        rw [← hv4] at b4
        rw [← hv8] at b8
        simp only [show (256 : Int) ^ 1 = 256 from rfl] at b1
        simp only [show (256 : Int) ^ 2 = 65536 from rfl] at b2
        simp only [show (256 : Int) ^ 4 = 4294967296 from rfl] at b4
        simp only [show (256 : Int) ^ 8 = 18446744073709551616 from rfl] at b8
        have hv1w : v1 = IntKind.u8.wrap (rdNum L bad 1) := by rw [← hv1]; show v1 = v1 % 256; omega
        have hv2w : v2 = IntKind.u16.wrap (rdNum L bad 2) := by rw [← hv2, IntKind.wrap_u16]; omega
        have hv4w : v4 = IntKind.u32.wrap (rdNum L bad 4) := by rw [← hv4]; show v4 = v4 % 4294967296; omega
        have q1 : IntKind.u64.wrap v1 = v1 := by rw [IntKind.wrap_u64]; omega
        have q2 : IntKind.u64.wrap v2 = v2 := by rw [IntKind.wrap_u64]; omega
        have q4 : IntKind.u64.wrap v4 = v4 := by rw [IntKind.wrap_u64]; omega
        have q8 : IntKind.u64.wrap z8 = v8 := by rw [hz8, ← hv8, IntKind.wrap_u64]; unfold wrap64; omega
        have cu8 : Calls Tryd.prog 36 #[.pointer (some ⟨g, 0, none⟩)] wr fun e w' => e = .returned (.int .u8 v1) ∧ Rdr w' g (rdLeft L bad 1) (rdBad L bad 1) ∧ But g wr w' := by
          have := u8_calls g L bad wr HI.out.2.2
          rw [← hv1w] at this
          exact this
        have cu16 : Calls Tryd.prog 31 #[.pointer (some ⟨g, 0, none⟩)] wr fun e w' => e = .returned (.int .u16 v2) ∧ Rdr w' g (rdLeft L bad 2) (rdBad L bad 2) ∧ But g wr w' := by
          have := u16_calls g L bad wr HI.out.2.2
          rw [← hv2w] at this
          exact this
        have cu32 : Calls Tryd.prog 32 #[.pointer (some ⟨g, 0, none⟩)] wr fun e w' => e = .returned (.int .u32 v4) ∧ Rdr w' g (rdLeft L bad 4) (rdBad L bad 4) ∧ But g wr w' := by
          have := u32_calls g L bad wr HI.out.2.2
          rw [← hv4w] at this
          exact this
        have ci64 : Calls Tryd.prog 33 #[.pointer (some ⟨g, 0, none⟩)] wr fun e w' => e = .returned (.int .i64 z8) ∧ Rdr w' g (rdLeft L bad 8) (rdBad L bad 8) ∧ But g wr w' := by
          have := i64_calls g L bad wr HI.out.2.2
          rw [← hz8] at this
          exact this
        obtain ⟨sv, hsv⟩ : ∃ s, s = strOfNums (rdTake (rdLeft L bad 1) (rdBad L bad 1) (rdByte L bad)) := ⟨_, rfl⟩
        have ctx : Calls Tryd.prog 34 #[.pointer (some ⟨g, 0, none⟩)] wr fun e w' => e = .returned (.string sv) ∧ Rdr w' g (rdLeft (rdLeft L bad 1) (rdBad L bad 1) (rdByte L bad)) (rdBad (rdLeft L bad 1) (rdBad L bad 1) (rdByte L bad)) ∧ But g wr w' := by
          have := text_calls g L bad wr HI.out.2.2
          rw [← hsv] at this
          exact this
        have hm : m ≤ 1000 := by have := HI.out.2.1.len; omega
        have t1 : ∀ W, Sl W A' m c' L → Calls Tryd.prog 38 #[.agg #[.slice A' m c', .bool bad], .int .i64 1] W fun e w' => ∃ A3 m3 c3, e = .returned (.tuple #[.agg #[.slice A3 m3 c3, .bool (rdBad L bad 1)], .int .u64 v1]) ∧ Sl w' A3 m3 c3 (rdLeft L bad 1) ∧ (∀ a, A3 = some a → ∃ a0, A' = some a0 ∧ a.block = a0.block) ∧ Below W.heap.size W w' := fun W h => by
          have := ref_take 1 (by omega) (by omega) A' m c' L bad W h HI.out.2.1.by_ hm
          rw [← hv1] at this
          exact this
        have t2 : ∀ W, Sl W A' m c' L → Calls Tryd.prog 38 #[.agg #[.slice A' m c', .bool bad], .int .i64 2] W fun e w' => ∃ A3 m3 c3, e = .returned (.tuple #[.agg #[.slice A3 m3 c3, .bool (rdBad L bad 2)], .int .u64 v2]) ∧ Sl w' A3 m3 c3 (rdLeft L bad 2) ∧ (∀ a, A3 = some a → ∃ a0, A' = some a0 ∧ a.block = a0.block) ∧ Below W.heap.size W w' := fun W h => by
          have := ref_take 2 (by omega) (by omega) A' m c' L bad W h HI.out.2.1.by_ hm
          rw [← hv2] at this
          exact this
        have t4 : ∀ W, Sl W A' m c' L → Calls Tryd.prog 38 #[.agg #[.slice A' m c', .bool bad], .int .i64 4] W fun e w' => ∃ A3 m3 c3, e = .returned (.tuple #[.agg #[.slice A3 m3 c3, .bool (rdBad L bad 4)], .int .u64 v4]) ∧ Sl w' A3 m3 c3 (rdLeft L bad 4) ∧ (∀ a, A3 = some a → ∃ a0, A' = some a0 ∧ a.block = a0.block) ∧ Below W.heap.size W w' := fun W h => by
          have := ref_take 4 (by omega) (by omega) A' m c' L bad W h HI.out.2.1.by_ hm
          rw [← hv4] at this
          exact this
        have t8 : ∀ W, Sl W A' m c' L → Calls Tryd.prog 38 #[.agg #[.slice A' m c', .bool bad], .int .i64 8] W fun e w' => ∃ A3 m3 c3, e = .returned (.tuple #[.agg #[.slice A3 m3 c3, .bool (rdBad L bad 8)], .int .u64 v8]) ∧ Sl w' A3 m3 c3 (rdLeft L bad 8) ∧ (∀ a, A3 = some a → ∃ a0, A' = some a0 ∧ a.block = a0.block) ∧ Below W.heap.size W w' := fun W h => by
          have := ref_take 8 (by omega) (by omega) A' m c' L bad W h HI.out.2.1.by_ hm
          rw [← hv8] at this
          exact this
        have tw : ∀ W, Sl W A' m c' L → Calls Tryd.prog 39 #[.agg #[.slice A' m c', .bool bad]] W fun e w' => ∃ A3 m3 c3, e = .returned (.tuple #[.agg #[.slice A3 m3 c3, .bool (rdBad (rdLeft L bad 1) (rdBad L bad 1) (rdByte L bad))], .string sv]) ∧ Sl w' A3 m3 c3 (rdLeft (rdLeft L bad 1) (rdBad L bad 1) (rdByte L bad)) ∧ (∀ a, A3 = some a → ∃ a0, A' = some a0 ∧ a.block = a0.block) ∧ Below W.heap.size W w' := fun W h => by
          have := ref_words A' m c' L bad W h HI.out.2.1.by_ hm
          rw [← hsv] at this
          exact this
        have fin : ∀ (W W' : World) (L' : List Int) (bad' : Bool) (A3 : Option Addr) (m3 c3 : Nat), TX w gx (some ad) nk ck kk W L bad A' m c' → Rdr W g L' bad' → Below W.heap.size W W' → Sl W' A3 m3 c3 L' → (∀ a, A3 = some a → ∃ a0, A' = some a0 ∧ a.block = a0.block) → L'.length ≤ L.length → (∀ x ∈ L', 0 ≤ x ∧ x < 256) →
            TX w gx (some ad) nk ck kk ((W'.setCell ⟨gx, 0, none⟩ (.slice A3 m3 c3)).setCell ⟨gx, 1, none⟩ (.bool bad')) L' bad' A3 m3 c3 ∧ Rdr ((W'.setCell ⟨gx, 0, none⟩ (.slice A3 m3 c3)).setCell ⟨gx, 1, none⟩ (.bool bad')) g L' bad' := fun W W' L' bad' A3 m3 c3 h1 h2 h3 h4 h5 h6 h7 =>
          ⟨h1.put h3 h4 h5 h6 h7, Rdr.far (h2.below h3) ((h1.below' h3).blk) HG.out.2 (((But.refl _ W').setCell 0 _).setCell 1 _)⟩
        have l1 := rdLeft_len L bad 1
        have l2 := rdLeft_len L bad 2
        have l4 := rdLeft_len L bad 4
        have l8 := rdLeft_len L bad 8
        have lw := Nat.le_trans (rdLeft_len (rdLeft L bad 1) (rdBad L bad 1) (rdByte L bad)) l1
        have y1 := rdLeft_by L bad 1 HI.out.2.1.by_
        have y2 := rdLeft_by L bad 2 HI.out.2.1.by_
        have y4 := rdLeft_by L bad 4 HI.out.2.1.by_
        have y8 := rdLeft_by L bad 8 HI.out.2.1.by_
        have yw := rdLeft_by (rdLeft L bad 1) (rdBad L bad 1) (rdByte L bad) y1
        obtain ⟨L1, hL1⟩ : ∃ X, X = rdLeft L bad 1 := ⟨_, rfl⟩
        obtain ⟨d1, hd1⟩ : ∃ X, X = rdBad L bad 1 := ⟨_, rfl⟩
        obtain ⟨L2, hL2⟩ : ∃ X, X = rdLeft L bad 2 := ⟨_, rfl⟩
        obtain ⟨d2, hd2⟩ : ∃ X, X = rdBad L bad 2 := ⟨_, rfl⟩
        obtain ⟨L4, hL4⟩ : ∃ X, X = rdLeft L bad 4 := ⟨_, rfl⟩
        obtain ⟨d4, hd4⟩ : ∃ X, X = rdBad L bad 4 := ⟨_, rfl⟩
        obtain ⟨L8, hL8⟩ : ∃ X, X = rdLeft L bad 8 := ⟨_, rfl⟩
        obtain ⟨d8, hd8⟩ : ∃ X, X = rdBad L bad 8 := ⟨_, rfl⟩
        obtain ⟨Lw, hLw⟩ : ∃ X, X = rdLeft (rdLeft L bad 1) (rdBad L bad 1) (rdByte L bad) := ⟨_, rfl⟩
        obtain ⟨dw, hdw⟩ : ∃ X, X = rdBad (rdLeft L bad 1) (rdBad L bad 1) (rdByte L bad) := ⟨_, rfl⟩
        rw [← hLw, ← hdw] at ctx
        simp only [← hLw, ← hdw] at tw
        rw [← hLw] at lw yw
        rw [← hL1, ← hd1] at cu8
        simp only [← hL1, ← hd1] at t1
        rw [← hL1] at l1 y1
        rw [← hL2, ← hd2] at cu16
        simp only [← hL2, ← hd2] at t2
        rw [← hL2] at l2 y2
        rw [← hL4, ← hd4] at cu32
        simp only [← hL4, ← hd4] at t4
        rw [← hL4] at l4 y4
        rw [← hL8, ← hd8] at ci64
        simp only [← hL8, ← hd8] at t8
        rw [← hL8] at l8 y8
        have HP := Aside0.mk (And.intro l1 (And.intro l2 (And.intro l4 (And.intro l8 (And.intro lw (And.intro y1 (And.intro y2 (And.intro y4 (And.intro y8 yw)))))))))
        have Hfin := Aside0.mk fin
        have Cu8 := Aside0.mk cu8
        have Cu16 := Aside0.mk cu16
        have Cu32 := Aside0.mk cu32
        have Ci64 := Aside0.mk ci64
        have Ctx := Aside0.mk ctx
        have T1 := Aside0.mk t1
        have T2 := Aside0.mk t2
        have T4 := Aside0.mk t4
        have T8 := Aside0.mk t8
        have Tw := Aside0.mk tw
        clear hv1 hv2 hv4 hv8 hz8 b1 b2 b4 b8 hv1w hv2w hv4w cu8 cu16 cu32 ci64 hsv ctx hm t1 t2 t4 t8 tw fin l1 l2 l4 l8 lw y1 y2 y4 y8 yw hL1 hd1 hL2 hd2 hL4 hd4 hL8 hd8 hLw hdw hqb
        go_wp2_with (first
          | (go_at_call 36; (with_reducible refine Cu8.out.mono ?_); rintro e w2 ⟨rfl, hr2, hb2⟩; have HA := Aside0.mk (And.intro hr2 (HI.out.2.1.but hb2 HG.out.1 (Ne.symm HG.out.2))); clear hr2 hb2; have k0 : w2.cell? ⟨gx, 0, none⟩ = some (.slice A' m c') := (blk_cell HA.out.2.blk 0).trans rfl; have k1 : w2.cell? ⟨gx, 1, none⟩ = some (.bool bad) := (blk_cell HA.out.2.blk 1).trans rfl)
          | (go_at_call 31; (with_reducible refine Cu16.out.mono ?_); rintro e w2 ⟨rfl, hr2, hb2⟩; have HA := Aside0.mk (And.intro hr2 (HI.out.2.1.but hb2 HG.out.1 (Ne.symm HG.out.2))); clear hr2 hb2; have k0 : w2.cell? ⟨gx, 0, none⟩ = some (.slice A' m c') := (blk_cell HA.out.2.blk 0).trans rfl; have k1 : w2.cell? ⟨gx, 1, none⟩ = some (.bool bad) := (blk_cell HA.out.2.blk 1).trans rfl)
          | (go_at_call 32; (with_reducible refine Cu32.out.mono ?_); rintro e w2 ⟨rfl, hr2, hb2⟩; have HA := Aside0.mk (And.intro hr2 (HI.out.2.1.but hb2 HG.out.1 (Ne.symm HG.out.2))); clear hr2 hb2; have k0 : w2.cell? ⟨gx, 0, none⟩ = some (.slice A' m c') := (blk_cell HA.out.2.blk 0).trans rfl; have k1 : w2.cell? ⟨gx, 1, none⟩ = some (.bool bad) := (blk_cell HA.out.2.blk 1).trans rfl)
          | (go_at_call 33; (with_reducible refine Ci64.out.mono ?_); rintro e w2 ⟨rfl, hr2, hb2⟩; have HA := Aside0.mk (And.intro hr2 (HI.out.2.1.but hb2 HG.out.1 (Ne.symm HG.out.2))); clear hr2 hb2; have k0 : w2.cell? ⟨gx, 0, none⟩ = some (.slice A' m c') := (blk_cell HA.out.2.blk 0).trans rfl; have k1 : w2.cell? ⟨gx, 1, none⟩ = some (.bool bad) := (blk_cell HA.out.2.blk 1).trans rfl)
          | (go_at_call 34; (with_reducible refine Ctx.out.mono ?_); rintro e w2 ⟨rfl, hr2, hb2⟩; have HA := Aside0.mk (And.intro hr2 (HI.out.2.1.but hb2 HG.out.1 (Ne.symm HG.out.2))); clear hr2 hb2; have k0 : w2.cell? ⟨gx, 0, none⟩ = some (.slice A' m c') := (blk_cell HA.out.2.blk 0).trans rfl; have k1 : w2.cell? ⟨gx, 1, none⟩ = some (.bool bad) := (blk_cell HA.out.2.blk 1).trans rfl)
          | (go_at_call 38; (with_reducible refine (T1.out _ HA.out.2.sl).mono ?_); rintro e w3 ⟨A3, m3, c3, rfl, hS3, hA3, hb3⟩; have hk3 := (HA.out.2.below' hb3).blk; have j0 : w3.cell? ⟨gx, 0, none⟩ = some (.slice A' m c') := (blk_cell hk3 0).trans rfl; have j1 : w3.cell? ⟨gx, 1, none⟩ = some (.bool bad) := (blk_cell hk3 1).trans rfl; have jf0 := blk_frozen hk3 0; have jf1 := blk_frozen hk3 1; have HF := Aside0.mk (Hfin.out _ _ _ _ _ _ _ HA.out.2 HA.out.1 hb3 hS3 hA3 HP.out.1 HP.out.2.2.2.2.2.1); clear hk3 hS3 hA3 hb3)
          | (go_at_call 38; (with_reducible refine (T2.out _ HA.out.2.sl).mono ?_); rintro e w3 ⟨A3, m3, c3, rfl, hS3, hA3, hb3⟩; have hk3 := (HA.out.2.below' hb3).blk; have j0 : w3.cell? ⟨gx, 0, none⟩ = some (.slice A' m c') := (blk_cell hk3 0).trans rfl; have j1 : w3.cell? ⟨gx, 1, none⟩ = some (.bool bad) := (blk_cell hk3 1).trans rfl; have jf0 := blk_frozen hk3 0; have jf1 := blk_frozen hk3 1; have HF := Aside0.mk (Hfin.out _ _ _ _ _ _ _ HA.out.2 HA.out.1 hb3 hS3 hA3 HP.out.2.1 HP.out.2.2.2.2.2.2.1); clear hk3 hS3 hA3 hb3)
          | (go_at_call 38; (with_reducible refine (T4.out _ HA.out.2.sl).mono ?_); rintro e w3 ⟨A3, m3, c3, rfl, hS3, hA3, hb3⟩; have hk3 := (HA.out.2.below' hb3).blk; have j0 : w3.cell? ⟨gx, 0, none⟩ = some (.slice A' m c') := (blk_cell hk3 0).trans rfl; have j1 : w3.cell? ⟨gx, 1, none⟩ = some (.bool bad) := (blk_cell hk3 1).trans rfl; have jf0 := blk_frozen hk3 0; have jf1 := blk_frozen hk3 1; have HF := Aside0.mk (Hfin.out _ _ _ _ _ _ _ HA.out.2 HA.out.1 hb3 hS3 hA3 HP.out.2.2.1 HP.out.2.2.2.2.2.2.2.1); clear hk3 hS3 hA3 hb3)
          | (go_at_call 38; (with_reducible refine (T8.out _ HA.out.2.sl).mono ?_); rintro e w3 ⟨A3, m3, c3, rfl, hS3, hA3, hb3⟩; have hk3 := (HA.out.2.below' hb3).blk; have j0 : w3.cell? ⟨gx, 0, none⟩ = some (.slice A' m c') := (blk_cell hk3 0).trans rfl; have j1 : w3.cell? ⟨gx, 1, none⟩ = some (.bool bad) := (blk_cell hk3 1).trans rfl; have jf0 := blk_frozen hk3 0; have jf1 := blk_frozen hk3 1; have HF := Aside0.mk (Hfin.out _ _ _ _ _ _ _ HA.out.2 HA.out.1 hb3 hS3 hA3 HP.out.2.2.2.1 HP.out.2.2.2.2.2.2.2.2.1); clear hk3 hS3 hA3 hb3)
          | (go_at_call 39; (with_reducible refine (Tw.out _ HA.out.2.sl).mono ?_); rintro e w3 ⟨A3, m3, c3, rfl, hS3, hA3, hb3⟩; have hk3 := (HA.out.2.below' hb3).blk; have j0 : w3.cell? ⟨gx, 0, none⟩ = some (.slice A' m c') := (blk_cell hk3 0).trans rfl; have j1 : w3.cell? ⟨gx, 1, none⟩ = some (.bool bad) := (blk_cell hk3 1).trans rfl; have jf0 := blk_frozen hk3 0; have jf1 := blk_frozen hk3 1; have HF := Aside0.mk (Hfin.out _ _ _ _ _ _ _ HA.out.2 HA.out.1 hb3 hS3 hA3 HP.out.2.2.2.2.1 HP.out.2.2.2.2.2.2.2.2.2); clear hk3 hS3 hA3 hb3))
        all_goals (
          go_meet
          case rel => exact ⟨_, _, _, _, _, _, _, rfl, rfl, rfl, rfl, HF⟩)
      case rest =>
        obtain ⟨v, s, L, bad, A', m, c', rfl, rfl, rfl, rfl, HF⟩ := hcut
        have hml : Aside0 (m = L.length) := ⟨HF.out.1.sl.len⟩
        have hLeft : ∀ W, Rdr W g L bad → Calls Tryd.prog 37 #[.pointer (some ⟨g, 0, none⟩)] W fun e w' => e = .returned (.int .i64 m) ∧ W = w' := fun W h => by
          have := left_calls g L bad W h
          rwa [← hml.out] at this
        have HG1 : Aside0 (j + 1 ≤ nk) := ⟨by omega⟩
        have hw1 : wrap64 ((j : Int) + 1) = (j : Int) + 1 := by have := HK.out.2; unfold wrap64; omega
        by_cases hd : bad = true ∨ 0 < L.length
        · have hD : Calls Tryd.prog 35 #[.pointer (some ⟨g, 0, none⟩)] wc fun e w' => e = .returned (.iface 75 (.int .i64 3)) ∧ wc = w' := by
            have := done_calls g L bad wc HF.out.2
            rwa [show rdDone L bad = some 3 by unfold rdDone; rw [if_pos hd]] at this
          have hRD : ∀ W, Calls Tryd.prog 40 #[.agg #[.slice A' m c', .bool bad]] W fun e w' => e = .returned (.bool false) ∧ Below W.heap.size W w' := fun W => by
            have := ref_done A' m c' bad W
            rwa [show (!bad && decide (m = 0)) = false by rcases hd with h | h <;> simp [h]; have := hml.out; omega] at this
          have HD := Aside0.mk hD
          clear hd hD hml
          go_wp2_with (go_at_call 35; (with_reducible refine HD.out.mono ?_); rintro e w0 ⟨rfl, rfl⟩)
          refine start_ (n := 32) (S := fun w' => (TX w gx (some ad) nk ck kk w' L bad A' m c' ∧ Rdr w' g L bad) ∧ w'.cell? ⟨gx, 0, none⟩ = some (.slice A' m c') ∧ w'.cell? ⟨gx, 1, none⟩ = some (.bool bad)) (ds := []) #[false, false, false, false, false, false, false, false, false, false, false, false, false, false, false, false, false, false, false, false, false, false, false, false, false, false, false, false, false, false, false, false] (by kernel_rfl) rfl rfl ⟨⟨HF.out.1.below' (Below.refl _ _).drew, HF.out.2.below (Below.refl _ _).drew⟩, ((blk_cell HF.out.1.blk 0).trans rfl), ((blk_cell HF.out.1.blk 1).trans rfl)⟩ (fun hHeld => ?_)
          refine pure_ (i := 0) (N := some 121) (v := ?_) (a' := ?_) #[true, false, false, false, false, false, false, false, false, false, false, false, false, false, false, false, false, false, false, false, false, false, false, false, false, false, false, false, false, false, false, false] rfl rfl (by kernel_rfl) (fun _ _ _ h => h) (Or.inl ⟨by rfl, ?_⟩) ?_ ?_
          rotate_left
          · intro w'
            go_simp
            with_reducible rfl
          rotate_left
          · simp only [Act.put, List.setIfInBounds_toArray, List.set_cons_zero, List.set_cons_succ, i64_w, i32_w]
            rfl
          refine pure_ (i := 1) (N := some 122) (v := ?_) (a' := ?_) #[true, true, false, false, false, false, false, false, false, false, false, false, false, false, false, false, false, false, false, false, false, false, false, false, false, false, false, false, false, false, false, false] rfl rfl (by kernel_rfl) (fun _ _ _ h => h) (Or.inl ⟨by rfl, ?_⟩) ?_ ?_
          rotate_left
          · intro w'
            go_simp
            with_reducible rfl
          rotate_left
          · simp only [Act.put, List.setIfInBounds_toArray, List.set_cons_zero, List.set_cons_succ, i64_w, i32_w]
            rfl
          refine pure_ (i := 2) (N := some 123) (v := ?_) (a' := ?_) #[true, true, true, false, false, false, false, false, false, false, false, false, false, false, false, false, false, false, false, false, false, false, false, false, false, false, false, false, false, false, false, false] rfl rfl (by kernel_rfl) (fun _ _ _ h => h) (Or.inl ⟨by rfl, ?_⟩) ?_ ?_
          rotate_left
          · intro w'
            go_simp
            with_reducible rfl
          rotate_left
          · simp only [Act.put, List.setIfInBounds_toArray, List.set_cons_zero, List.set_cons_succ, i64_w, i32_w]
            rfl
          refine pure_ (i := 3) (N := some 124) (v := ?_) (a' := ?_) #[true, true, true, true, false, false, false, false, false, false, false, false, false, false, false, false, false, false, false, false, false, false, false, false, false, false, false, false, false, false, false, false] rfl rfl (by kernel_rfl) (fun _ _ _ h => h) (Or.inl ⟨by rfl, ?_⟩) ?_ ?_
          rotate_left
          · intro w'
            go_simp
            with_reducible rfl
          rotate_left
          · simp only [Act.put, List.setIfInBounds_toArray, List.set_cons_zero, List.set_cons_succ, i64_w, i32_w]
            rfl
          refine pure_ (i := 4) (N := some 125) (v := ?_) (a' := ?_) #[true, true, true, true, true, false, false, false, false, false, false, false, false, false, false, false, false, false, false, false, false, false, false, false, false, false, false, false, false, false, false, false] rfl rfl (by kernel_rfl) (fun _ _ _ h => h) (Or.inl ⟨by rfl, ?_⟩) ?_ ?_
          rotate_left
          · intro w'
            go_simp
            with_reducible rfl
          rotate_left
          · simp only [Act.put, List.setIfInBounds_toArray, List.set_cons_zero, List.set_cons_succ, i64_w, i32_w]
            rfl
          refine pure_ (i := 5) (N := some 126) (v := ?_) (a' := ?_) #[true, true, true, true, true, true, false, false, false, false, false, false, false, false, false, false, false, false, false, false, false, false, false, false, false, false, false, false, false, false, false, false] rfl rfl (by kernel_rfl) (fun _ _ _ h => h) (Or.inl ⟨by rfl, ?_⟩) ?_ ?_
          rotate_left
          · intro w'
            go_simp
            with_reducible rfl
          rotate_left
          · simp only [Act.put, List.setIfInBounds_toArray, List.set_cons_zero, List.set_cons_succ, i64_w, i32_w]
            rfl
          refine pure_ (i := 6) (N := some 127) (v := ?_) (a' := ?_) #[true, true, true, true, true, true, true, false, false, false, false, false, false, false, false, false, false, false, false, false, false, false, false, false, false, false, false, false, false, false, false, false] rfl rfl (by kernel_rfl) (fun _ _ _ h => h) (Or.inl ⟨by rfl, ?_⟩) ?_ ?_
          rotate_left
          · intro w'
            go_simp
            with_reducible rfl
          rotate_left
          · simp only [Act.put, List.setIfInBounds_toArray, List.set_cons_zero, List.set_cons_succ, i64_w, i32_w]
            rfl
          refine pure_ (i := 7) (N := some 128) (v := ?_) (a' := ?_) #[true, true, true, true, true, true, true, true, false, false, false, false, false, false, false, false, false, false, false, false, false, false, false, false, false, false, false, false, false, false, false, false] rfl rfl (by kernel_rfl) (fun _ _ _ h => h) (Or.inl ⟨by rfl, ?_⟩) ?_ ?_
          rotate_left
          · intro w'
            go_simp
            with_reducible rfl
          rotate_left
          · simp only [Act.put, List.setIfInBounds_toArray, List.set_cons_zero, List.set_cons_succ, i64_w, i32_w]
            rfl
          refine pure_ (i := 8) (N := some 129) (v := ?_) (a' := ?_) #[true, true, true, true, true, true, true, true, true, false, false, false, false, false, false, false, false, false, false, false, false, false, false, false, false, false, false, false, false, false, false, false] rfl rfl (by kernel_rfl) (fun _ _ _ h => h) (Or.inl ⟨by rfl, ?_⟩) ?_ ?_
          rotate_left
          · intro w'
            go_simp
            with_reducible rfl
          rotate_left
          · simp only [Act.put, List.setIfInBounds_toArray, List.set_cons_zero, List.set_cons_succ, i64_w, i32_w]
            rfl
          refine pure_ (i := 9) (N := some 130) (v := ?_) (a' := ?_) #[true, true, true, true, true, true, true, true, true, true, false, false, false, false, false, false, false, false, false, false, false, false, false, false, false, false, false, false, false, false, false, false] rfl rfl (by kernel_rfl) (fun _ _ _ h => h) (Or.inl ⟨by rfl, ?_⟩) ?_ ?_
          rotate_left
          · intro w'
            go_simp
            with_reducible rfl
          rotate_left
          · simp only [Act.put, List.setIfInBounds_toArray, List.set_cons_zero, List.set_cons_succ, i64_w, i32_w]
            rfl
          refine pure_ (i := 11) (N := some 132) (v := ?_) (a' := ?_) #[true, true, true, true, true, true, true, true, true, true, false, true, false, false, false, false, false, false, false, false, false, false, false, false, false, false, false, false, false, false, false, false] rfl rfl (by kernel_rfl) (fun _ _ _ h => h) (Or.inl ⟨by rfl, ?_⟩) ?_ ?_
          rotate_left
          · intro w'
            go_simp
            with_reducible rfl
          rotate_left
          · simp only [Act.put, List.setIfInBounds_toArray, List.set_cons_zero, List.set_cons_succ, i64_w, i32_w]
            rfl
          refine take_ (i := 12) (N := some 133) (v := ?_) (a' := ?_) #[true, true, true, true, true, true, true, true, true, true, false, true, true, false, false, false, false, false, false, false, false, false, false, false, false, false, false, false, false, false, false, false] rfl rfl (by kernel_rfl) (fun _ _ _ h => h) (Or.inl ⟨by rfl, ?_⟩) hHeld ?_ ?_
          rotate_left
          · rintro w' ⟨s0, s1, s2⟩
            go_simp
            with_reducible rfl
          rotate_left
          · simp only [Act.put, List.setIfInBounds_toArray, List.set_cons_zero, List.set_cons_succ, i64_w, i32_w]
            rfl
          refine pure_ (i := 13) (N := some 134) (v := ?_) (a' := ?_) #[true, true, true, true, true, true, true, true, true, true, false, true, true, true, false, false, false, false, false, false, false, false, false, false, false, false, false, false, false, false, false, false] rfl rfl (by kernel_rfl) (fun _ _ _ h => h) (Or.inl ⟨by rfl, ?_⟩) ?_ ?_
          rotate_left
          · intro w'
            go_simp
            with_reducible rfl
          rotate_left
          · simp only [Act.put, List.setIfInBounds_toArray, List.set_cons_zero, List.set_cons_succ, i64_w, i32_w]
            rfl
          refine one_ (i := 10) (N := some 131) #[true, true, true, true, true, true, true, true, true, true, true, true, true, true, false, false, false, false, false, false, false, false, false, false, false, false, false, false, false, false, false, false] rfl rfl (by kernel_rfl) (by decide) (fun K hK => ?_)
          refine goes_ Tryd.func37 (by kernel_rfl) rfl #[.pointer (some ⟨g, 0, none⟩)] (by rfl) rfl rfl (by simp only [List.map_toArray, List.map_cons, List.map_nil]; rfl) ?_
          with_reducible refine (hLeft _ hHeld.1.2).mono ?_
          rintro e w10 ⟨rfl, rfl⟩
          refine ⟨_, rfl, ?_⟩
          refine hK.out _ _ ⟨⟨hHeld.1.1.below' (Below.refl _ _), hHeld.1.2.below (Below.refl _ _)⟩, ((blk_cell (hHeld.1.1.below' (Below.refl _ _)).blk 0).trans rfl), ((blk_cell (hHeld.1.1.below' (Below.refl _ _)).blk 1).trans rfl)⟩ (fun hHeld => ?_)
          clear hK K
          refine norm_ (a' := ?_) ?_ ?_
          rotate_left
          · show Act.put _ (some 131) _ = _
            simp only [Act.put, List.setIfInBounds_toArray, List.set_cons_zero, List.set_cons_succ, i64_w, i32_w]
            rfl
          refine pure_ (i := 14) (N := some 135) (v := ?_) (a' := ?_) #[true, true, true, true, true, true, true, true, true, true, true, true, true, true, true, false, false, false, false, false, false, false, false, false, false, false, false, false, false, false, false, false] rfl rfl (by kernel_rfl) (fun _ _ _ h => h) (Or.inl ⟨by rfl, ?_⟩) ?_ ?_
          rotate_left
          · intro w'
            go_simp
            with_reducible rfl
          rotate_left
          · simp only [Act.put, List.setIfInBounds_toArray, List.set_cons_zero, List.set_cons_succ, i64_w, i32_w]
            rfl
          refine pure_ (i := 15) (N := some 136) (v := ?_) (a' := ?_) #[true, true, true, true, true, true, true, true, true, true, true, true, true, true, true, true, false, false, false, false, false, false, false, false, false, false, false, false, false, false, false, false] rfl rfl (by kernel_rfl) (fun _ _ _ h => h) (Or.inl ⟨by rfl, ?_⟩) ?_ ?_
          rotate_left
          · intro w'
            go_simp
            with_reducible rfl
          rotate_left
          · simp only [Act.put, List.setIfInBounds_toArray, List.set_cons_zero, List.set_cons_succ, i64_w, i32_w]
            rfl
          refine pure_ (i := 16) (N := some 137) (v := ?_) (a' := ?_) #[true, true, true, true, true, true, true, true, true, true, true, true, true, true, true, true, true, false, false, false, false, false, false, false, false, false, false, false, false, false, false, false] rfl rfl (by kernel_rfl) (fun _ _ _ h => h) (Or.inl ⟨by rfl, ?_⟩) ?_ ?_
          rotate_left
          · intro w'
            go_simp
            with_reducible rfl
          rotate_left
          · simp only [Act.put, List.setIfInBounds_toArray, List.set_cons_zero, List.set_cons_succ, i64_w, i32_w]
            rfl
          refine pure_ (i := 17) (N := some 138) (v := ?_) (a' := ?_) #[true, true, true, true, true, true, true, true, true, true, true, true, true, true, true, true, true, true, false, false, false, false, false, false, false, false, false, false, false, false, false, false] rfl rfl (by kernel_rfl) (fun _ _ _ h => h) (Or.inl ⟨by rfl, ?_⟩) ?_ ?_
          rotate_left
          · intro w'
            go_simp
            with_reducible rfl
          rotate_left
          · simp only [Act.put, List.setIfInBounds_toArray, List.set_cons_zero, List.set_cons_succ, i64_w, i32_w]
            rfl
          refine pure_ (i := 18) (N := some 139) (v := ?_) (a' := ?_) #[true, true, true, true, true, true, true, true, true, true, true, true, true, true, true, true, true, true, true, false, false, false, false, false, false, false, false, false, false, false, false, false] rfl rfl (by kernel_rfl) (fun _ _ _ h => h) (Or.inl ⟨by rfl, ?_⟩) ?_ ?_
          rotate_left
          · intro w'
            go_simp
            with_reducible rfl
          rotate_left
          · simp only [Act.put, List.setIfInBounds_toArray, List.set_cons_zero, List.set_cons_succ, i64_w, i32_w]
            rfl
          refine take_ (i := 19) (N := some 140) (v := ?_) (a' := ?_) #[true, true, true, true, true, true, true, true, true, true, true, true, true, true, true, true, true, true, true, true, false, false, false, false, false, false, false, false, false, false, false, false] rfl rfl (by kernel_rfl) (fun _ _ _ h => h) (Or.inl ⟨by rfl, ?_⟩) hHeld ?_ ?_
          rotate_left
          · rintro w' ⟨s0, s1, s2⟩
            go_simp
            with_reducible rfl
          rotate_left
          · simp only [Act.put, List.setIfInBounds_toArray, List.set_cons_zero, List.set_cons_succ, i64_w, i32_w]
            rfl
          refine one_ (i := 20) (N := some 141) #[true, true, true, true, true, true, true, true, true, true, true, true, true, true, true, true, true, true, true, true, true, false, false, false, false, false, false, false, false, false, false, false] rfl rfl (by kernel_rfl) (by decide) (fun K hK => ?_)
          refine goes_ Tryd.func40 (by kernel_rfl) rfl #[.agg #[.slice A' m c', .bool bad]] (by rfl) rfl rfl (by simp only [List.map_toArray, List.map_cons, List.map_nil]; rfl) ?_
          with_reducible refine (hRD _).mono ?_
          rintro e w20 ⟨rfl, hb20⟩
          refine ⟨_, rfl, ?_⟩
          refine hK.out _ _ ⟨⟨hHeld.1.1.below' hb20, hHeld.1.2.below hb20⟩, ((blk_cell (hHeld.1.1.below' hb20).blk 0).trans rfl), ((blk_cell (hHeld.1.1.below' hb20).blk 1).trans rfl)⟩ (fun hHeld => ?_)
          clear hK K
          refine norm_ (a' := ?_) ?_ ?_
          rotate_left
          · show Act.put _ (some 141) _ = _
            simp only [Act.put, List.setIfInBounds_toArray, List.set_cons_zero, List.set_cons_succ, i64_w, i32_w]
            rfl
          refine pure_ (i := 21) (N := some 142) (v := ?_) (a' := ?_) #[true, true, true, true, true, true, true, true, true, true, true, true, true, true, true, true, true, true, true, true, true, true, false, false, false, false, false, false, false, false, false, false] rfl rfl (by kernel_rfl) (fun _ _ _ h => h) (Or.inl ⟨by rfl, ?_⟩) ?_ ?_
          rotate_left
          · intro w'
            go_simp
            with_reducible rfl
          rotate_left
          · simp only [Act.put, List.setIfInBounds_toArray, List.set_cons_zero, List.set_cons_succ, i64_w, i32_w]
            rfl
          refine pure_ (i := 22) (N := some 143) (v := ?_) (a' := ?_) #[true, true, true, true, true, true, true, true, true, true, true, true, true, true, true, true, true, true, true, true, true, true, true, false, false, false, false, false, false, false, false, false] rfl rfl (by kernel_rfl) (fun _ _ _ h => h) (Or.inl ⟨by rfl, ?_⟩) ?_ ?_
          rotate_left
          · intro w'
            go_simp
            with_reducible rfl
          rotate_left
          · simp only [Act.put, List.setIfInBounds_toArray, List.set_cons_zero, List.set_cons_succ, i64_w, i32_w]
            rfl
          refine pure_ (i := 23) (N := some 144) (v := ?_) (a' := ?_) #[true, true, true, true, true, true, true, true, true, true, true, true, true, true, true, true, true, true, true, true, true, true, true, true, false, false, false, false, false, false, false, false] rfl rfl (by kernel_rfl) (fun _ _ _ h => h) (Or.inl ⟨by rfl, ?_⟩) ?_ ?_
          rotate_left
          · intro w'
            go_simp
            with_reducible rfl
          rotate_left
          · simp only [Act.put, List.setIfInBounds_toArray, List.set_cons_zero, List.set_cons_succ, i64_w, i32_w]
            rfl
          refine pure_ (i := 24) (N := some 145) (v := ?_) (a' := ?_) #[true, true, true, true, true, true, true, true, true, true, true, true, true, true, true, true, true, true, true, true, true, true, true, true, true, false, false, false, false, false, false, false] rfl rfl (by kernel_rfl) (fun _ _ _ h => h) (Or.inl ⟨by rfl, ?_⟩) ?_ ?_
          rotate_left
          · intro w'
            go_simp
            with_reducible rfl
          rotate_left
          · simp only [Act.put, List.setIfInBounds_toArray, List.set_cons_zero, List.set_cons_succ, i64_w, i32_w]
            rfl
          refine pure_ (i := 25) (N := some 146) (v := ?_) (a' := ?_) #[true, true, true, true, true, true, true, true, true, true, true, true, true, true, true, true, true, true, true, true, true, true, true, true, true, true, false, false, false, false, false, false] rfl rfl (by kernel_rfl) (fun _ _ _ h => h) (Or.inl ⟨by rfl, ?_⟩) ?_ ?_
          rotate_left
          · intro w'
            go_simp
            with_reducible rfl
          rotate_left
          · simp only [Act.put, List.setIfInBounds_toArray, List.set_cons_zero, List.set_cons_succ, i64_w, i32_w]
            rfl
          refine pure_ (i := 26) (N := some 147) (v := ?_) (a' := ?_) #[true, true, true, true, true, true, true, true, true, true, true, true, true, true, true, true, true, true, true, true, true, true, true, true, true, true, true, false, false, false, false, false] rfl rfl (by kernel_rfl) (fun _ _ _ h => h) (Or.inl ⟨by rfl, ?_⟩) ?_ ?_
          rotate_left
          · intro w'
            go_simp
            with_reducible rfl
          rotate_left
          · simp only [Act.put, List.setIfInBounds_toArray, List.set_cons_zero, List.set_cons_succ, i64_w, i32_w]
            rfl
          refine pure_ (i := 27) (N := some 148) (v := ?_) (a' := ?_) #[true, true, true, true, true, true, true, true, true, true, true, true, true, true, true, true, true, true, true, true, true, true, true, true, true, true, true, true, false, false, false, false] rfl rfl (by kernel_rfl) (fun _ _ _ h => h) (Or.inl ⟨by rfl, ?_⟩) ?_ ?_
          rotate_left
          · intro w'
            go_simp
            with_reducible rfl
          rotate_left
          · simp only [Act.put, List.setIfInBounds_toArray, List.set_cons_zero, List.set_cons_succ, i64_w, i32_w]
            rfl
          refine one_ (i := 28) (N := some 149) #[true, true, true, true, true, true, true, true, true, true, true, true, true, true, true, true, true, true, true, true, true, true, true, true, true, true, true, true, true, false, false, false] rfl rfl (by kernel_rfl) (by decide) (fun K hK => ?_)
          refine goes_ Tryd.func29 (by kernel_rfl) rfl #[.iface 75 (.int .i64 3)] (by rfl) rfl rfl (by simp only [List.map_toArray, List.map_cons, List.map_nil]; rfl) ?_
          with_reducible refine (hNumH.out _ (HH.out.below (Nat.le_refl _) hHeld.1.1.below)).mono ?_
          rintro e w28 ⟨rfl, hb28⟩
          refine ⟨_, rfl, ?_⟩
          refine hK.out _ _ ⟨⟨hHeld.1.1.below' hb28, hHeld.1.2.below hb28⟩, ((blk_cell (hHeld.1.1.below' hb28).blk 0).trans rfl), ((blk_cell (hHeld.1.1.below' hb28).blk 1).trans rfl)⟩ (fun hHeld => ?_)
          clear hK K
          refine norm_ (a' := ?_) ?_ ?_
          rotate_left
          · show Act.put _ (some 149) _ = _
            simp only [Act.put, List.setIfInBounds_toArray, List.set_cons_zero, List.set_cons_succ, i64_w, i32_w]
            rfl
          refine pure_ (i := 29) (N := some 150) (v := ?_) (a' := ?_) #[true, true, true, true, true, true, true, true, true, true, true, true, true, true, true, true, true, true, true, true, true, true, true, true, true, true, true, true, true, true, false, false] rfl rfl (by kernel_rfl) (fun _ _ _ h => h) (Or.inl ⟨by rfl, ?_⟩) ?_ ?_
          rotate_left
          · intro w'
            go_simp
            with_reducible rfl
          rotate_left
          · simp only [Act.put, List.setIfInBounds_toArray, List.set_cons_zero, List.set_cons_succ, i64_w, i32_w]
            rfl
          refine pure_ (i := 30) (N := some 151) (v := ?_) (a' := ?_) #[true, true, true, true, true, true, true, true, true, true, true, true, true, true, true, true, true, true, true, true, true, true, true, true, true, true, true, true, true, true, true, false] rfl rfl (by kernel_rfl) (fun _ _ _ h => h) (Or.inl ⟨by rfl, ?_⟩) ?_ ?_
          rotate_left
          · intro w'
            go_simp
            with_reducible rfl
          rotate_left
          · simp only [Act.put, List.setIfInBounds_toArray, List.set_cons_zero, List.set_cons_succ, i64_w, i32_w]
            rfl
          refine pure_ (i := 31) (N := some 152) (v := ?_) (a' := ?_) #[true, true, true, true, true, true, true, true, true, true, true, true, true, true, true, true, true, true, true, true, true, true, true, true, true, true, true, true, true, true, true, true] rfl rfl (by kernel_rfl) (fun _ _ _ h => h) (Or.inl ⟨by rfl, ?_⟩) ?_ ?_
          rotate_left
          · intro w'
            go_simp
            with_reducible rfl
          rotate_left
          · simp only [Act.put, List.setIfInBounds_toArray, List.set_cons_zero, List.set_cons_succ, i64_w, i32_w]
            rfl
          refine done_ (by kernel_rfl) ?_
          have H9 := Aside0.mk hHeld
          clear hHeld
          go_wp2_with (fail)
          simp only [hw1]
          refine ⟨⟨j + 1, L, bad, A', m, c', by simp, ⟨HG1.out, H9.out.1.1, H9.out.1.2⟩⟩, ?_⟩
          show nk - ((j : Int) + 1).toNat < nk - ((j : Nat) : Int).toNat
          omega
        · have hD : Calls Tryd.prog 35 #[.pointer (some ⟨g, 0, none⟩)] wc fun e w' => e = .returned .nilIface ∧ wc = w' := by
            have := done_calls g L bad wc HF.out.2
            rwa [show rdDone L bad = none by unfold rdDone; rw [if_neg hd]] at this
          have hRD : ∀ W, Calls Tryd.prog 40 #[.agg #[.slice A' m c', .bool bad]] W fun e w' => e = .returned (.bool true) ∧ Below W.heap.size W w' := fun W => by
            have := ref_done A' m c' bad W
            rwa [show (!bad && decide (m = 0)) = true by cases bad <;> simp at hd ⊢; have := hml.out; simp [this, hd]] at this
          have HD := Aside0.mk hD
          clear hd hD hml
          go_wp2_with (go_at_call 35; (with_reducible refine HD.out.mono ?_); rintro e w0 ⟨rfl, rfl⟩)
          refine start_ (n := 32) (S := fun w' => (TX w gx (some ad) nk ck kk w' L bad A' m c' ∧ Rdr w' g L bad) ∧ w'.cell? ⟨gx, 0, none⟩ = some (.slice A' m c') ∧ w'.cell? ⟨gx, 1, none⟩ = some (.bool bad)) (ds := []) #[false, false, false, false, false, false, false, false, false, false, false, false, false, false, false, false, false, false, false, false, false, false, false, false, false, false, false, false, false, false, false, false] (by kernel_rfl) rfl rfl ⟨⟨HF.out.1.below' (Below.refl _ _).drew, HF.out.2.below (Below.refl _ _).drew⟩, ((blk_cell HF.out.1.blk 0).trans rfl), ((blk_cell HF.out.1.blk 1).trans rfl)⟩ (fun hHeld => ?_)
          refine pure_ (i := 0) (N := some 121) (v := ?_) (a' := ?_) #[true, false, false, false, false, false, false, false, false, false, false, false, false, false, false, false, false, false, false, false, false, false, false, false, false, false, false, false, false, false, false, false] rfl rfl (by kernel_rfl) (fun _ _ _ h => h) (Or.inl ⟨by rfl, ?_⟩) ?_ ?_
          rotate_left
          · intro w'
            go_simp
            with_reducible rfl
          rotate_left
          · simp only [Act.put, List.setIfInBounds_toArray, List.set_cons_zero, List.set_cons_succ, i64_w, i32_w]
            rfl
          refine pure_ (i := 1) (N := some 122) (v := ?_) (a' := ?_) #[true, true, false, false, false, false, false, false, false, false, false, false, false, false, false, false, false, false, false, false, false, false, false, false, false, false, false, false, false, false, false, false] rfl rfl (by kernel_rfl) (fun _ _ _ h => h) (Or.inl ⟨by rfl, ?_⟩) ?_ ?_
          rotate_left
          · intro w'
            go_simp
            with_reducible rfl
          rotate_left
          · simp only [Act.put, List.setIfInBounds_toArray, List.set_cons_zero, List.set_cons_succ, i64_w, i32_w]
            rfl
          refine pure_ (i := 2) (N := some 123) (v := ?_) (a' := ?_) #[true, true, true, false, false, false, false, false, false, false, false, false, false, false, false, false, false, false, false, false, false, false, false, false, false, false, false, false, false, false, false, false] rfl rfl (by kernel_rfl) (fun _ _ _ h => h) (Or.inl ⟨by rfl, ?_⟩) ?_ ?_
          rotate_left
          · intro w'
            go_simp
            with_reducible rfl
          rotate_left
          · simp only [Act.put, List.setIfInBounds_toArray, List.set_cons_zero, List.set_cons_succ, i64_w, i32_w]
            rfl
          refine pure_ (i := 3) (N := some 124) (v := ?_) (a' := ?_) #[true, true, true, true, false, false, false, false, false, false, false, false, false, false, false, false, false, false, false, false, false, false, false, false, false, false, false, false, false, false, false, false] rfl rfl (by kernel_rfl) (fun _ _ _ h => h) (Or.inl ⟨by rfl, ?_⟩) ?_ ?_
          rotate_left
          · intro w'
            go_simp
            with_reducible rfl
          rotate_left
          · simp only [Act.put, List.setIfInBounds_toArray, List.set_cons_zero, List.set_cons_succ, i64_w, i32_w]
            rfl
          refine pure_ (i := 4) (N := some 125) (v := ?_) (a' := ?_) #[true, true, true, true, true, false, false, false, false, false, false, false, false, false, false, false, false, false, false, false, false, false, false, false, false, false, false, false, false, false, false, false] rfl rfl (by kernel_rfl) (fun _ _ _ h => h) (Or.inl ⟨by rfl, ?_⟩) ?_ ?_
          rotate_left
          · intro w'
            go_simp
            with_reducible rfl
          rotate_left
          · simp only [Act.put, List.setIfInBounds_toArray, List.set_cons_zero, List.set_cons_succ, i64_w, i32_w]
            rfl
          refine pure_ (i := 5) (N := some 126) (v := ?_) (a' := ?_) #[true, true, true, true, true, true, false, false, false, false, false, false, false, false, false, false, false, false, false, false, false, false, false, false, false, false, false, false, false, false, false, false] rfl rfl (by kernel_rfl) (fun _ _ _ h => h) (Or.inl ⟨by rfl, ?_⟩) ?_ ?_
          rotate_left
          · intro w'
            go_simp
            with_reducible rfl
          rotate_left
          · simp only [Act.put, List.setIfInBounds_toArray, List.set_cons_zero, List.set_cons_succ, i64_w, i32_w]
            rfl
          refine pure_ (i := 6) (N := some 127) (v := ?_) (a' := ?_) #[true, true, true, true, true, true, true, false, false, false, false, false, false, false, false, false, false, false, false, false, false, false, false, false, false, false, false, false, false, false, false, false] rfl rfl (by kernel_rfl) (fun _ _ _ h => h) (Or.inl ⟨by rfl, ?_⟩) ?_ ?_
          rotate_left
          · intro w'
            go_simp
            with_reducible rfl
          rotate_left
          · simp only [Act.put, List.setIfInBounds_toArray, List.set_cons_zero, List.set_cons_succ, i64_w, i32_w]
            rfl
          refine pure_ (i := 7) (N := some 128) (v := ?_) (a' := ?_) #[true, true, true, true, true, true, true, true, false, false, false, false, false, false, false, false, false, false, false, false, false, false, false, false, false, false, false, false, false, false, false, false] rfl rfl (by kernel_rfl) (fun _ _ _ h => h) (Or.inl ⟨by rfl, ?_⟩) ?_ ?_
          rotate_left
          · intro w'
            go_simp
            with_reducible rfl
          rotate_left
          · simp only [Act.put, List.setIfInBounds_toArray, List.set_cons_zero, List.set_cons_succ, i64_w, i32_w]
            rfl
          refine pure_ (i := 8) (N := some 129) (v := ?_) (a' := ?_) #[true, true, true, true, true, true, true, true, true, false, false, false, false, false, false, false, false, false, false, false, false, false, false, false, false, false, false, false, false, false, false, false] rfl rfl (by kernel_rfl) (fun _ _ _ h => h) (Or.inl ⟨by rfl, ?_⟩) ?_ ?_
          rotate_left
          · intro w'
            go_simp
            with_reducible rfl
          rotate_left
          · simp only [Act.put, List.setIfInBounds_toArray, List.set_cons_zero, List.set_cons_succ, i64_w, i32_w]
            rfl
          refine pure_ (i := 9) (N := some 130) (v := ?_) (a' := ?_) #[true, true, true, true, true, true, true, true, true, true, false, false, false, false, false, false, false, false, false, false, false, false, false, false, false, false, false, false, false, false, false, false] rfl rfl (by kernel_rfl) (fun _ _ _ h => h) (Or.inl ⟨by rfl, ?_⟩) ?_ ?_
          rotate_left
          · intro w'
            go_simp
            with_reducible rfl
          rotate_left
          · simp only [Act.put, List.setIfInBounds_toArray, List.set_cons_zero, List.set_cons_succ, i64_w, i32_w]
            rfl
          refine pure_ (i := 11) (N := some 132) (v := ?_) (a' := ?_) #[true, true, true, true, true, true, true, true, true, true, false, true, false, false, false, false, false, false, false, false, false, false, false, false, false, false, false, false, false, false, false, false] rfl rfl (by kernel_rfl) (fun _ _ _ h => h) (Or.inl ⟨by rfl, ?_⟩) ?_ ?_
          rotate_left
          · intro w'
            go_simp
            with_reducible rfl
          rotate_left
          · simp only [Act.put, List.setIfInBounds_toArray, List.set_cons_zero, List.set_cons_succ, i64_w, i32_w]
            rfl
          refine take_ (i := 12) (N := some 133) (v := ?_) (a' := ?_) #[true, true, true, true, true, true, true, true, true, true, false, true, true, false, false, false, false, false, false, false, false, false, false, false, false, false, false, false, false, false, false, false] rfl rfl (by kernel_rfl) (fun _ _ _ h => h) (Or.inl ⟨by rfl, ?_⟩) hHeld ?_ ?_
          rotate_left
          · rintro w' ⟨s0, s1, s2⟩
            go_simp
            with_reducible rfl
          rotate_left
          · simp only [Act.put, List.setIfInBounds_toArray, List.set_cons_zero, List.set_cons_succ, i64_w, i32_w]
            rfl
          refine pure_ (i := 13) (N := some 134) (v := ?_) (a' := ?_) #[true, true, true, true, true, true, true, true, true, true, false, true, true, true, false, false, false, false, false, false, false, false, false, false, false, false, false, false, false, false, false, false] rfl rfl (by kernel_rfl) (fun _ _ _ h => h) (Or.inl ⟨by rfl, ?_⟩) ?_ ?_
          rotate_left
          · intro w'
            go_simp
            with_reducible rfl
          rotate_left
          · simp only [Act.put, List.setIfInBounds_toArray, List.set_cons_zero, List.set_cons_succ, i64_w, i32_w]
            rfl
          refine one_ (i := 10) (N := some 131) #[true, true, true, true, true, true, true, true, true, true, true, true, true, true, false, false, false, false, false, false, false, false, false, false, false, false, false, false, false, false, false, false] rfl rfl (by kernel_rfl) (by decide) (fun K hK => ?_)
          refine goes_ Tryd.func37 (by kernel_rfl) rfl #[.pointer (some ⟨g, 0, none⟩)] (by rfl) rfl rfl (by simp only [List.map_toArray, List.map_cons, List.map_nil]; rfl) ?_
          with_reducible refine (hLeft _ hHeld.1.2).mono ?_
          rintro e w10 ⟨rfl, rfl⟩
          refine ⟨_, rfl, ?_⟩
          refine hK.out _ _ ⟨⟨hHeld.1.1.below' (Below.refl _ _), hHeld.1.2.below (Below.refl _ _)⟩, ((blk_cell (hHeld.1.1.below' (Below.refl _ _)).blk 0).trans rfl), ((blk_cell (hHeld.1.1.below' (Below.refl _ _)).blk 1).trans rfl)⟩ (fun hHeld => ?_)
          clear hK K
          refine norm_ (a' := ?_) ?_ ?_
          rotate_left
          · show Act.put _ (some 131) _ = _
            simp only [Act.put, List.setIfInBounds_toArray, List.set_cons_zero, List.set_cons_succ, i64_w, i32_w]
            rfl
          refine pure_ (i := 14) (N := some 135) (v := ?_) (a' := ?_) #[true, true, true, true, true, true, true, true, true, true, true, true, true, true, true, false, false, false, false, false, false, false, false, false, false, false, false, false, false, false, false, false] rfl rfl (by kernel_rfl) (fun _ _ _ h => h) (Or.inl ⟨by rfl, ?_⟩) ?_ ?_
          rotate_left
          · intro w'
            go_simp
            with_reducible rfl
          rotate_left
          · simp only [Act.put, List.setIfInBounds_toArray, List.set_cons_zero, List.set_cons_succ, i64_w, i32_w]
            rfl
          refine pure_ (i := 15) (N := some 136) (v := ?_) (a' := ?_) #[true, true, true, true, true, true, true, true, true, true, true, true, true, true, true, true, false, false, false, false, false, false, false, false, false, false, false, false, false, false, false, false] rfl rfl (by kernel_rfl) (fun _ _ _ h => h) (Or.inl ⟨by rfl, ?_⟩) ?_ ?_
          rotate_left
          · intro w'
            go_simp
            with_reducible rfl
          rotate_left
          · simp only [Act.put, List.setIfInBounds_toArray, List.set_cons_zero, List.set_cons_succ, i64_w, i32_w]
            rfl
          refine pure_ (i := 16) (N := some 137) (v := ?_) (a' := ?_) #[true, true, true, true, true, true, true, true, true, true, true, true, true, true, true, true, true, false, false, false, false, false, false, false, false, false, false, false, false, false, false, false] rfl rfl (by kernel_rfl) (fun _ _ _ h => h) (Or.inl ⟨by rfl, ?_⟩) ?_ ?_
          rotate_left
          · intro w'
            go_simp
            with_reducible rfl
          rotate_left
          · simp only [Act.put, List.setIfInBounds_toArray, List.set_cons_zero, List.set_cons_succ, i64_w, i32_w]
            rfl
          refine pure_ (i := 17) (N := some 138) (v := ?_) (a' := ?_) #[true, true, true, true, true, true, true, true, true, true, true, true, true, true, true, true, true, true, false, false, false, false, false, false, false, false, false, false, false, false, false, false] rfl rfl (by kernel_rfl) (fun _ _ _ h => h) (Or.inl ⟨by rfl, ?_⟩) ?_ ?_
          rotate_left
          · intro w'
            go_simp
            with_reducible rfl
          rotate_left
          · simp only [Act.put, List.setIfInBounds_toArray, List.set_cons_zero, List.set_cons_succ, i64_w, i32_w]
            rfl
          refine pure_ (i := 18) (N := some 139) (v := ?_) (a' := ?_) #[true, true, true, true, true, true, true, true, true, true, true, true, true, true, true, true, true, true, true, false, false, false, false, false, false, false, false, false, false, false, false, false] rfl rfl (by kernel_rfl) (fun _ _ _ h => h) (Or.inl ⟨by rfl, ?_⟩) ?_ ?_
          rotate_left
          · intro w'
            go_simp
            with_reducible rfl
          rotate_left
          · simp only [Act.put, List.setIfInBounds_toArray, List.set_cons_zero, List.set_cons_succ, i64_w, i32_w]
            rfl
          refine take_ (i := 19) (N := some 140) (v := ?_) (a' := ?_) #[true, true, true, true, true, true, true, true, true, true, true, true, true, true, true, true, true, true, true, true, false, false, false, false, false, false, false, false, false, false, false, false] rfl rfl (by kernel_rfl) (fun _ _ _ h => h) (Or.inl ⟨by rfl, ?_⟩) hHeld ?_ ?_
          rotate_left
          · rintro w' ⟨s0, s1, s2⟩
            go_simp
            with_reducible rfl
          rotate_left
          · simp only [Act.put, List.setIfInBounds_toArray, List.set_cons_zero, List.set_cons_succ, i64_w, i32_w]
            rfl
          refine one_ (i := 20) (N := some 141) #[true, true, true, true, true, true, true, true, true, true, true, true, true, true, true, true, true, true, true, true, true, false, false, false, false, false, false, false, false, false, false, false] rfl rfl (by kernel_rfl) (by decide) (fun K hK => ?_)
          refine goes_ Tryd.func40 (by kernel_rfl) rfl #[.agg #[.slice A' m c', .bool bad]] (by rfl) rfl rfl (by simp only [List.map_toArray, List.map_cons, List.map_nil]; rfl) ?_
          with_reducible refine (hRD _).mono ?_
          rintro e w20 ⟨rfl, hb20⟩
          refine ⟨_, rfl, ?_⟩
          refine hK.out _ _ ⟨⟨hHeld.1.1.below' hb20, hHeld.1.2.below hb20⟩, ((blk_cell (hHeld.1.1.below' hb20).blk 0).trans rfl), ((blk_cell (hHeld.1.1.below' hb20).blk 1).trans rfl)⟩ (fun hHeld => ?_)
          clear hK K
          refine norm_ (a' := ?_) ?_ ?_
          rotate_left
          · show Act.put _ (some 141) _ = _
            simp only [Act.put, List.setIfInBounds_toArray, List.set_cons_zero, List.set_cons_succ, i64_w, i32_w]
            rfl
          refine pure_ (i := 21) (N := some 142) (v := ?_) (a' := ?_) #[true, true, true, true, true, true, true, true, true, true, true, true, true, true, true, true, true, true, true, true, true, true, false, false, false, false, false, false, false, false, false, false] rfl rfl (by kernel_rfl) (fun _ _ _ h => h) (Or.inl ⟨by rfl, ?_⟩) ?_ ?_
          rotate_left
          · intro w'
            go_simp
            with_reducible rfl
          rotate_left
          · simp only [Act.put, List.setIfInBounds_toArray, List.set_cons_zero, List.set_cons_succ, i64_w, i32_w]
            rfl
          refine pure_ (i := 22) (N := some 143) (v := ?_) (a' := ?_) #[true, true, true, true, true, true, true, true, true, true, true, true, true, true, true, true, true, true, true, true, true, true, true, false, false, false, false, false, false, false, false, false] rfl rfl (by kernel_rfl) (fun _ _ _ h => h) (Or.inl ⟨by rfl, ?_⟩) ?_ ?_
          rotate_left
          · intro w'
            go_simp
            with_reducible rfl
          rotate_left
          · simp only [Act.put, List.setIfInBounds_toArray, List.set_cons_zero, List.set_cons_succ, i64_w, i32_w]
            rfl
          refine pure_ (i := 23) (N := some 144) (v := ?_) (a' := ?_) #[true, true, true, true, true, true, true, true, true, true, true, true, true, true, true, true, true, true, true, true, true, true, true, true, false, false, false, false, false, false, false, false] rfl rfl (by kernel_rfl) (fun _ _ _ h => h) (Or.inl ⟨by rfl, ?_⟩) ?_ ?_
          rotate_left
          · intro w'
            go_simp
            with_reducible rfl
          rotate_left
          · simp only [Act.put, List.setIfInBounds_toArray, List.set_cons_zero, List.set_cons_succ, i64_w, i32_w]
            rfl
          refine pure_ (i := 24) (N := some 145) (v := ?_) (a' := ?_) #[true, true, true, true, true, true, true, true, true, true, true, true, true, true, true, true, true, true, true, true, true, true, true, true, true, false, false, false, false, false, false, false] rfl rfl (by kernel_rfl) (fun _ _ _ h => h) (Or.inl ⟨by rfl, ?_⟩) ?_ ?_
          rotate_left
          · intro w'
            go_simp
            with_reducible rfl
          rotate_left
          · simp only [Act.put, List.setIfInBounds_toArray, List.set_cons_zero, List.set_cons_succ, i64_w, i32_w]
            rfl
          refine pure_ (i := 25) (N := some 146) (v := ?_) (a' := ?_) #[true, true, true, true, true, true, true, true, true, true, true, true, true, true, true, true, true, true, true, true, true, true, true, true, true, true, false, false, false, false, false, false] rfl rfl (by kernel_rfl) (fun _ _ _ h => h) (Or.inl ⟨by rfl, ?_⟩) ?_ ?_
          rotate_left
          · intro w'
            go_simp
            with_reducible rfl
          rotate_left
          · simp only [Act.put, List.setIfInBounds_toArray, List.set_cons_zero, List.set_cons_succ, i64_w, i32_w]
            rfl
          refine pure_ (i := 26) (N := some 147) (v := ?_) (a' := ?_) #[true, true, true, true, true, true, true, true, true, true, true, true, true, true, true, true, true, true, true, true, true, true, true, true, true, true, true, false, false, false, false, false] rfl rfl (by kernel_rfl) (fun _ _ _ h => h) (Or.inl ⟨by rfl, ?_⟩) ?_ ?_
          rotate_left
          · intro w'
            go_simp
            with_reducible rfl
          rotate_left
          · simp only [Act.put, List.setIfInBounds_toArray, List.set_cons_zero, List.set_cons_succ, i64_w, i32_w]
            rfl
          refine pure_ (i := 27) (N := some 148) (v := undef) (a' := ?_) #[true, true, true, true, true, true, true, true, true, true, true, true, true, true, true, true, true, true, true, true, true, true, true, true, true, true, true, true, false, false, false, false] rfl rfl (by kernel_rfl) (fun _ _ _ h => h) (Or.inr ⟨by rfl, rfl⟩) ?_ ?_
          rotate_left
          · simp only [Act.put, List.setIfInBounds_toArray, List.set_cons_zero, List.set_cons_succ, i64_w, i32_w]
            rfl
          refine pure_ (i := 28) (N := some 149) (v := undef) (a' := ?_) #[true, true, true, true, true, true, true, true, true, true, true, true, true, true, true, true, true, true, true, true, true, true, true, true, true, true, true, true, true, false, false, false] rfl rfl (by kernel_rfl) (fun _ _ _ h => h) (Or.inr ⟨by rfl, rfl⟩) ?_ ?_
          rotate_left
          · simp only [Act.put, List.setIfInBounds_toArray, List.set_cons_zero, List.set_cons_succ, i64_w, i32_w]
            rfl
          refine pure_ (i := 29) (N := some 150) (v := undef) (a' := ?_) #[true, true, true, true, true, true, true, true, true, true, true, true, true, true, true, true, true, true, true, true, true, true, true, true, true, true, true, true, true, true, false, false] rfl rfl (by kernel_rfl) (fun _ _ _ h => h) (Or.inr ⟨by rfl, rfl⟩) ?_ ?_
          rotate_left
          · simp only [Act.put, List.setIfInBounds_toArray, List.set_cons_zero, List.set_cons_succ, i64_w, i32_w]
            rfl
          refine pure_ (i := 30) (N := some 151) (v := ?_) (a' := ?_) #[true, true, true, true, true, true, true, true, true, true, true, true, true, true, true, true, true, true, true, true, true, true, true, true, true, true, true, true, true, true, true, false] rfl rfl (by kernel_rfl) (fun _ _ _ h => h) (Or.inl ⟨by rfl, ?_⟩) ?_ ?_
          rotate_left
          · intro w'
            go_simp
            with_reducible rfl
          rotate_left
          · simp only [Act.put, List.setIfInBounds_toArray, List.set_cons_zero, List.set_cons_succ, i64_w, i32_w]
            rfl
          refine pure_ (i := 31) (N := some 152) (v := ?_) (a' := ?_) #[true, true, true, true, true, true, true, true, true, true, true, true, true, true, true, true, true, true, true, true, true, true, true, true, true, true, true, true, true, true, true, true] rfl rfl (by kernel_rfl) (fun _ _ _ h => h) (Or.inl ⟨by rfl, ?_⟩) ?_ ?_
          rotate_left
          · intro w'
            go_simp
            with_reducible rfl
          rotate_left
          · simp only [Act.put, List.setIfInBounds_toArray, List.set_cons_zero, List.set_cons_succ, i64_w, i32_w]
            rfl
          refine done_ (by kernel_rfl) ?_
          have H9 := Aside0.mk hHeld
          clear hHeld
          go_wp2_with (fail)
          simp only [hw1]
          refine ⟨⟨j + 1, L, bad, A', m, c', by simp, ⟨HG1.out, H9.out.1.1, H9.out.1.2⟩⟩, ?_⟩
          show nk - ((j : Int) + 1).toNat < nk - ((j : Nat) : Int).toNat
          omega
    · have hS := sure05 wr (HH.out.below (Nat.le_refl _) HI.out.2.1.below)
      go_wp2_with (go_at_call 22; (with_reducible refine hS.mono ?_); rintro e w2 ⟨rfl, hb2⟩)
      go_ret
      exact ⟨rfl, HI.out.2.1.below.trans (hb2.mono HI.out.2.1.below.size)⟩
end Go.Proofs.YtiljnlhmeolhfaaDoor.MFd
