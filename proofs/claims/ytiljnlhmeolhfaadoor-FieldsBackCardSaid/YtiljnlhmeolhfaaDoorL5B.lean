/-
  The law FieldsBack, walked.
-/
import Derived.Test.YtiljnlhmeolhfaaDoorF5
namespace Go.Proofs.YtiljnlhmeolhfaaDoor.MFd
open Go.RowKit Go.Proofs.YtiljnlhmeolhfaaDoorW.PrintWords Go.Proofs.YtiljnlhmeolhfaaDoorW.PrintLast Go.Proofs.YtiljnlhmeolhfaaDoorW.PrintMore
set_option linter.unusedVariables false
set_option linter.unusedSimpArgs false

theorem bounds_u32 {n : Int} (h : (Lit.int .u32 n).wf = true) : 0 ≤ n ∧ n ≤ 4294967295 := by
  simp [Lit.wf, IntKind.min, IntKind.max, IntKind.signed, IntKind.bits] at h
  omega
theorem Sl.take {w : World} {A : Option Addr} {n c m : Nat} {l : List Int} (h : Sl w A n c l) (hm : m ≤ n) : Sl w A m c (l.take m) := by
  have hl := h.len
  have hC := Kd.C_take (m := m) h.rd (by omega)
  exact ⟨hC, by rw [List.length_take]; omega, by have := h.cap; omega⟩
theorem rd_text (s : ByteArray) (hs : s.size ≤ 255) : rdByte ((s.size : Int) :: bytesOf s) false = s.size ∧ rdLeft ((s.size : Int) :: bytesOf s) false 1 = bytesOf s ∧ rdBad ((s.size : Int) :: bytesOf s) false 1 = false := by
  have h := rd_num (s.size : Int) 1 (by omega) (by omega) (bytesOf s)
  have e : bytesN (s.size : Int) 1 = [(s.size : Int)] := by simp only [bytesN]; rw [show (s.size : Int) % 256 = s.size by omega]
  rw [e] at h
  refine ⟨?_, h.2.1, h.2.2⟩
  unfold rdByte
  have h1 : rdNum ((s.size : Int) :: bytesOf s) false 1 = (s.size : Int) := by
    have := h.1
    rw [show [(s.size : Int)] ++ bytesOf s = (s.size : Int) :: bytesOf s from rfl] at this
    rw [this]; show (s.size : Int) % 256 = s.size; omega
  rw [h1]
  show ((s.size : Int) % 256).toNat = s.size
  omega
theorem rd_text_all (s : ByteArray) (hs : s.size ≤ 255) (g : Nat) (w : World) (h : Rdr w g ((s.size : Int) :: bytesOf s) false) :
    Calls Tryd.prog 34 #[.pointer (some ⟨g, 0, none⟩)] w fun e w' => e = .returned (.string s) ∧ Rdr w' g [] false ∧ But g w w' := by
  have := text_calls g _ false w h
  obtain ⟨e1, e2, e3⟩ := rd_text s hs
  rw [e1, e2, e3] at this
  have l1 : ¬ (false = true ∨ (bytesOf s).length < s.size) := by rw [bytesOf_len]; simp
  have t1 : rdTake (bytesOf s) false s.size = bytesOf s := by unfold rdTake; rw [if_neg l1, List.take_of_length_le (by rw [bytesOf_len]; omega)]
  have t2 : rdLeft (bytesOf s) false s.size = [] := by unfold rdLeft; rw [if_neg l1, List.drop_eq_nil_iff]; rw [bytesOf_len]; omega
  have t3 : rdBad (bytesOf s) false s.size = false := by unfold rdBad; simp [bytesOf_len]
  rw [t1, t2, t3, strOf_bytesOf] at this
  exact this
theorem rd_text_short (s : ByteArray) (hs : s.size ≤ 255) (g : Nat) (w : World) (h : Rdr w g (((s.size : Int) :: bytesOf s).take s.size) false) :
    Calls Tryd.prog 34 #[.pointer (some ⟨g, 0, none⟩)] w fun e w' => ∃ v l, e = .returned (.string v) ∧ Rdr w' g l true ∧ But g w w' := by
  refine (text_calls g _ false w h).mono ?_
  rintro e w' ⟨he, h2, h3⟩
  have hb : rdBad (rdLeft (((s.size : Int) :: bytesOf s).take s.size) false 1) (rdBad (((s.size : Int) :: bytesOf s).take s.size) false 1) (rdByte (((s.size : Int) :: bytesOf s).take s.size) false) = true := by
    by_cases hz : s.size = 0
    · rw [hz]
      simp [rdBad, rdLeft]
    · obtain ⟨k, hk⟩ : ∃ k, s.size = k + 1 := ⟨s.size - 1, by omega⟩
      have et : ((s.size : Int) :: bytesOf s).take s.size = (s.size : Int) :: (bytesOf s).take k := by rw [hk, List.take_succ_cons]
      have h4 := rd_num (s.size : Int) 1 (by omega) (by omega) ((bytesOf s).take k)
      have e : bytesN (s.size : Int) 1 = [(s.size : Int)] := by simp only [bytesN]; rw [show (s.size : Int) % 256 = s.size by omega]
      rw [e] at h4
      have e1 : [(s.size : Int)] ++ (bytesOf s).take k = (s.size : Int) :: (bytesOf s).take k := rfl
      rw [e1] at h4
      have eb : rdByte ((s.size : Int) :: (bytesOf s).take k) false = s.size := by
        unfold rdByte
        rw [h4.1]
        show (((s.size : Int) % 256) % 256).toNat = s.size
        omega
      rw [et, eb, h4.2.1, h4.2.2]
      unfold rdBad
      simp [bytesOf_len]
      omega
  rw [hb] at h2
  exact ⟨_, _, he, h2, h3⟩
set_option maxRecDepth 100000 in
set_option maxHeartbeats 8000000 in
theorem back_walk (v x : Int) (s : ByteArray) (w : World) (hg : HG w) (v0 : 0 ≤ v) (v1 : v ≤ 4294967295) (x0 : -9223372036854775808 ≤ x) (x1 : x ≤ 9223372036854775807) :
    Calls Tryd.prog 6 #[.int .u32 v, .int .i64 x, .string s] w fun e w' => e = .returned (.bool true) ∧ Below w.heap.size w w' := by
  by_cases hb : 255 < s.size
  · have hS := sure05 w hg
    have h1' : (255 : Int) < (s.size : Int) := by omega
    clear hg hb
    go_enter Tryd.func6, Tryd.ntmps6
    go_wp2_with (go_at_call 22; (with_reducible refine hS.mono ?_); rintro e w2 ⟨rfl, hb2⟩)
    go_ret
    exact ⟨rfl, hb2⟩
  have h1' : ¬ (255 : Int) < (s.size : Int) := by omega
  have hs : s.size ≤ 255 := by omega
  obtain ⟨v16, hv16⟩ : ∃ a, a = IntKind.u16.wrap v := ⟨_, rfl⟩
  have hw16 : IntKind.u16.wrap v = v16 := hv16.symm
  have b16 : 0 ≤ v16 ∧ v16 < 65536 := by rw [hv16, IntKind.wrap_u16]; omega
  obtain ⟨B2, hB2⟩ : ∃ B, B = bytesN v16 2 := ⟨_, rfl⟩
  obtain ⟨B4, hB4⟩ : ∃ B, B = bytesN v 4 := ⟨_, rfl⟩
  obtain ⟨B8, hB8⟩ : ∃ B, B = bytesN (IntKind.u64.wrap x) 8 := ⟨_, rfl⟩
  obtain ⟨T3, hT3⟩ : ∃ B, B = (s.size : Int) :: bytesOf s := ⟨_, rfl⟩
  obtain ⟨n, hn⟩ : ∃ n : Nat, n = 15 + s.size := ⟨_, rfl⟩
  obtain ⟨m, hm⟩ : ∃ m : Nat, m = 14 + s.size := ⟨_, rfl⟩
  have hux := u64_range x
  have l2 : B2.length = 2 := by rw [hB2, bytesN_length]
  have l4 : B4.length = 4 := by rw [hB4, bytesN_length]
  have l8 : B8.length = 8 := by rw [hB8, bytesN_length]
  have l3 : T3.length = 1 + s.size := by rw [hT3]; simp [bytesOf_len]; omega
  have w16 : IntKind.u64.wrap v16 = v16 := by rw [IntKind.wrap_u64]; omega
  have w32 : IntKind.u64.wrap v = v := by rw [IntKind.wrap_u64]; omega
  have hU16 : ∀ W, Calls Tryd.prog 25 #[.slice none 0 0, .int .u16 v16] W fun e w' => ∃ A c, e = .returned (.slice A 2 c) ∧ Sl w' A 2 c B2 ∧ Below W.heap.size W w' := fun W => by
    have := u16_sl v16 (Sl.nil W) (by simp) 2 rfl
    rwa [w16, ← hB2, List.nil_append] at this
  have hU32 : ∀ W A c, Sl W A 2 c B2 → Calls Tryd.prog 27 #[.slice A 2 c, .int .u32 v] W fun e w' => ∃ A' c', e = .returned (.slice A' 6 c') ∧ Sl w' A' 6 c' (B2 ++ B4) ∧ Below W.heap.size W w' := fun W A c h => by
    have := u32_sl v h (by omega) 6 rfl
    rwa [w32, ← hB4] at this
  have hI64 : ∀ W A c, Sl W A 6 c (B2 ++ B4) → Calls Tryd.prog 28 #[.slice A 6 c, .int .i64 x] W fun e w' => ∃ A' c', e = .returned (.slice A' 14 c') ∧ Sl w' A' 14 c' (B2 ++ B4 ++ B8) ∧ Below W.heap.size W w' := fun W A c h => by
    have := i64_sl x h (by rw [List.length_append]; omega) 14 rfl
    rwa [← hB8] at this
  have hTx : ∀ W A c, Sl W A 14 c (B2 ++ B4 ++ B8) → Calls Tryd.prog 23 #[.slice A 14 c, .string s] W fun e w' => ∃ A' c', e = .returned (.tuple #[.slice A' n c', .nilIface]) ∧ Sl w' A' n c' (B2 ++ (B4 ++ (B8 ++ T3))) ∧ Below W.heap.size W w' := fun W A c h => by
    have := text_sl s h (by simp; omega) hs n (by omega)
    rwa [← hT3, List.append_assoc, List.append_assoc] at this
  have hNew : ∀ W A c, Sl W A n c (B2 ++ (B4 ++ (B8 ++ T3))) → Calls Tryd.prog 30 #[.slice A n c] W fun e w' => ∃ g, e = .returned (.pointer (some ⟨g, 0, none⟩)) ∧ W.heap.size ≤ g ∧ Rdr w' g (B2 ++ (B4 ++ (B8 ++ T3))) false ∧ Below W.heap.size W w' := fun W A c h => new_sl h (by simp; omega)
  have hNew2 : ∀ W A c, Sl W A n c (B2 ++ (B4 ++ (B8 ++ T3))) → Calls Tryd.prog 30 #[.slice A m c] W fun e w' => ∃ g, e = .returned (.pointer (some ⟨g, 0, none⟩)) ∧ W.heap.size ≤ g ∧ Rdr w' g (B2 ++ (B4 ++ (B8 ++ T3.take s.size))) false ∧ Below W.heap.size W w' := fun W A c h => by
    have h2 := h.take (m := m) (by omega)
    have e : (B2 ++ (B4 ++ (B8 ++ T3))).take m = B2 ++ (B4 ++ (B8 ++ T3.take s.size)) := by
      rw [hm, List.take_append, List.take_append, List.take_append, List.take_of_length_le (l := B2) (by omega), List.take_of_length_le (l := B4) (by omega), List.take_of_length_le (l := B8) (by omega), l2, l4, l8, show 14 + s.size - 2 - 4 - 8 = s.size by omega]
    rw [e] at h2
    exact new_sl h2 (by simp; omega)
  have r16 : ∀ (T : List Int) (g : Nat) (W : World), Rdr W g (B2 ++ T) false → Calls Tryd.prog 31 #[.pointer (some ⟨g, 0, none⟩)] W fun e w' => e = .returned (.int .u16 v16) ∧ Rdr w' g T false ∧ But g W w' := fun T g W h => by
    have h1 := u16_calls g _ false W h
    have h2 := rd_num v16 2 (by omega) b16.1 T
    rw [← hB2] at h2
    rw [h2.1, h2.2.1, h2.2.2, show v16 % 256 ^ 2 = v16 by show v16 % 65536 = v16; omega, show IntKind.u16.wrap v16 = v16 by rw [IntKind.wrap_u16]; omega] at h1
    exact h1
  have r32 : ∀ (T : List Int) (g : Nat) (W : World), Rdr W g (B4 ++ T) false → Calls Tryd.prog 32 #[.pointer (some ⟨g, 0, none⟩)] W fun e w' => e = .returned (.int .u32 v) ∧ Rdr w' g T false ∧ But g W w' := fun T g W h => by
    have h1 := u32_calls g _ false W h
    have h2 := rd_num v 4 (by omega) v0 T
    rw [← hB4] at h2
    rw [h2.1, h2.2.1, h2.2.2, show v % 256 ^ 4 = v by show v % 4294967296 = v; omega, show IntKind.u32.wrap v = v by rw [IntKind.wrap_u32]; omega] at h1
    exact h1
  have r64 : ∀ (T : List Int) (g : Nat) (W : World), Rdr W g (B8 ++ T) false → Calls Tryd.prog 33 #[.pointer (some ⟨g, 0, none⟩)] W fun e w' => e = .returned (.int .i64 x) ∧ Rdr w' g T false ∧ But g W w' := fun T g W h => by
    have h1 := i64_calls g _ false W h
    have h2 := rd_num (IntKind.u64.wrap x) 8 (by omega) hux.1 T
    rw [← hB8] at h2
    rw [h2.1, h2.2.1, h2.2.2, show IntKind.u64.wrap x % 256 ^ 8 = IntKind.u64.wrap x by show IntKind.u64.wrap x % 18446744073709551616 = _; omega, show wrap64 (IntKind.u64.wrap x) = x by rw [IntKind.wrap_u64]; unfold wrap64; omega] at h1
    exact h1
  have rT : ∀ (g : Nat) (W : World), Rdr W g T3 false → Calls Tryd.prog 34 #[.pointer (some ⟨g, 0, none⟩)] W fun e w' => e = .returned (.string s) ∧ Rdr w' g [] false ∧ But g W w' := fun g W h => by
    rw [hT3] at h; exact rd_text_all s hs g W h
  have rT2 : ∀ (g : Nat) (W : World), Rdr W g (T3.take s.size) false → Calls Tryd.prog 34 #[.pointer (some ⟨g, 0, none⟩)] W fun e w' => ∃ v l, e = .returned (.string v) ∧ Rdr w' g l true ∧ But g W w' := fun g W h => by
    rw [hT3] at h; exact rd_text_short s hs g W h
  have hD0 : ∀ g W, Rdr W g [] false → Calls Tryd.prog 35 #[.pointer (some ⟨g, 0, none⟩)] W fun e w' => e = .returned .nilIface ∧ W = w' := fun g W h => done_calls g [] false W h
  have hD1 : ∀ g l W, Rdr W g l true → Calls Tryd.prog 35 #[.pointer (some ⟨g, 0, none⟩)] W fun e w' => e = .returned (.iface 75 (.int .i64 3)) ∧ W = w' := fun g l W h => by
    have := done_calls g l true W h
    rwa [show rdDone l true = some 3 by simp [rdDone]] at this
  have hne : ((n : Int) != 15 + (s.size : Int)) = false := by rw [hn]; simp
  have hnm : (n : Int) - 1 = (m : Int) := by omega
  have hmn : m ≤ n := by omega
  have hm0 : (0 : Int) ≤ m := by omega
  have hm1 : (m : Int) ≤ 300 := by omega
  have hwm : wrap64 (m : Int) = (m : Int) := by unfold wrap64; omega
  obtain ⟨i0, hi0, _, hsz, _⟩ := info_parts info5
  have cut : ∀ (A : Option Addr) (c : Nat), n ≤ c → _ := fun A c hc => cut_to (P := Tryd.prog) 36 5 .i64 Tryd.underlying36 hi0 A n c (m : Int) (by omega) (by omega) hc
  simp only [Int.toNat_natCast] at cut
  have HG0 := Lib.hid hg
  have HN := Lib.hid (show n = 15 + s.size ∧ m = 14 + s.size from ⟨hn, hm⟩)
  clear hg hb hs hv16 b16 hB2 hB4 hB8 hT3 hn hm hux l2 l4 l8 l3 w16 w32 hi0 hsz x0 x1 v0 v1 hmn
  go_enter Tryd.func6, Tryd.ntmps6
  go_wp2_with (fail)
  (with_reducible refine (hU16 _).mono ?_)
  rintro e w1 ⟨A1, c1, rfl, h1, hb⟩
  have H1 := Lib.hid (And.intro h1 hb)
  clear h1 hb hU16
  go_wp2_with (fail)
  (with_reducible refine (hU32 _ _ _ H1.out.1).mono ?_)
  rintro e w2 ⟨A2, c2, rfl, h2, hb⟩
  have H2 := Lib.hid (And.intro h2 (H1.out.2.trans (hb.mono H1.out.2.size)))
  clear h2 hb hU32
  go_wp2_with (fail)
  (with_reducible refine (hI64 _ _ _ H2.out.1).mono ?_)
  rintro e w3 ⟨A3, c3, rfl, h3, hb⟩
  have H3 := Lib.hid (And.intro h3 (H2.out.2.trans (hb.mono H2.out.2.size)))
  clear h3 hb hI64
  go_wp2_with (fail)
  (with_reducible refine (hTx _ _ _ H3.out.1).mono ?_)
  rintro e w4 ⟨A4, c4, rfl, h4, hb⟩
  have H4 := Lib.hid (And.intro h4 (H3.out.2.trans (hb.mono H3.out.2.size)))
  clear h4 hb hTx
  go_wp2_with (fail)
  (with_reducible refine (hNew _ _ _ H4.out.1).mono ?_)
  rintro e w5 ⟨g, rfl, hgl, hr, hb⟩
  have hne5 : ∀ a, A4 = some a → 0 < n → a.block ≠ g := fun a ha hp => by have := H4.out.1.lt ha hp; omega
  have H5 := Lib.hid (And.intro hr (And.intro (H4.out.1.below hb) (And.intro (H4.out.2.trans (hb.mono H4.out.2.size)) (And.intro (show w.heap.size ≤ g from Nat.le_trans H4.out.2.size hgl) hne5))))
  clear hr hb hNew hgl hne5
  go_wp2_with (fail)
  (with_reducible refine (r16 _ g _ H5.out.1).mono ?_)
  rintro e w6 ⟨rfl, hr, hb⟩
  have H6 := Lib.hid (And.intro hr (And.intro (H5.out.2.1.but hb H5.out.2.2.2.2) (but_below hb H5.out.2.2.1 H5.out.2.2.2.1 H5.out.2.2.1.size)))
  clear hr hb
  rw [← hw16]
  go_wp2_with (fail)
  (with_reducible refine (r32 _ g _ H6.out.1).mono ?_)
  rintro e w7 ⟨rfl, hr, hb⟩
  have H7 := Lib.hid (And.intro hr (And.intro (H6.out.2.1.but hb H5.out.2.2.2.2) (but_below hb H6.out.2.2 H5.out.2.2.2.1 H6.out.2.2.size)))
  clear hr hb
  go_wp2_with (fail)
  (with_reducible refine (r64 _ g _ H7.out.1).mono ?_)
  rintro e w8 ⟨rfl, hr, hb⟩
  have H8 := Lib.hid (And.intro hr (And.intro (H7.out.2.1.but hb H5.out.2.2.2.2) (but_below hb H7.out.2.2 H5.out.2.2.2.1 H7.out.2.2.size)))
  clear hr hb
  go_wp2_with (fail)
  (with_reducible refine (rT g _ H8.out.1).mono ?_)
  rintro e w9 ⟨rfl, hr, hb⟩
  have H9 := Lib.hid (And.intro hr (And.intro (H8.out.2.1.but hb H5.out.2.2.2.2) (but_below hb H8.out.2.2 H5.out.2.2.2.1 H8.out.2.2.size)))
  clear hr hb
  go_wp2_with (fail)
  (with_reducible refine (hD0 g _ H9.out.1).mono ?_)
  rintro e w10 ⟨rfl, rfl⟩
  have cutq := cut A4 c4 H4.out.1.cap
  go_wp2_with (fail)
  (with_reducible refine (hNew2 _ _ _ H9.out.2.1).mono ?_)
  rintro e w11 ⟨g2, rfl, hgl, hr, hb⟩
  have hB11 := H9.out.2.2.trans (hb.mono H9.out.2.2.size)
  have HA := Lib.hid (And.intro hr (And.intro hB11 (show w.heap.size ≤ g2 from Nat.le_trans H9.out.2.2.size hgl)))
  clear hr hb hNew2 hgl hB11 cut cutq
  go_wp2_with (fail)
  (with_reducible refine (r16 _ g2 _ HA.out.1).mono ?_)
  rintro e w12 ⟨rfl, hr, hb⟩
  have HB := Lib.hid (And.intro hr (but_below hb HA.out.2.1 HA.out.2.2 HA.out.2.1.size))
  clear hr hb
  go_wp2_with (fail)
  (with_reducible refine (r32 _ g2 _ HB.out.1).mono ?_)
  rintro e w13 ⟨rfl, hr, hb⟩
  have HC := Lib.hid (And.intro hr (but_below hb HB.out.2 HA.out.2.2 HB.out.2.size))
  clear hr hb
  go_wp2_with (fail)
  (with_reducible refine (r64 _ g2 _ HC.out.1).mono ?_)
  rintro e w14 ⟨rfl, hr, hb⟩
  have HD := Lib.hid (And.intro hr (but_below hb HC.out.2 HA.out.2.2 HC.out.2.size))
  clear hr hb
  go_wp2_with (fail)
  (with_reducible refine (rT2 g2 _ HD.out.1).mono ?_)
  rintro e w15 ⟨v15, l15, rfl, hr, hb⟩
  have HE := Lib.hid (And.intro hr (but_below hb HD.out.2 HA.out.2.2 HD.out.2.size))
  clear hr hb
  go_wp2_with (fail)
  (with_reducible refine (hD1 g2 l15 _ HE.out.1).mono ?_)
  rintro e w16 ⟨rfl, rfl⟩
  have hg16 := HG0.out.below (Nat.le_refl _) HE.out.2
  have HF := Lib.hid hg16
  clear hg16 r16 r32 r64 rT rT2 hD0 hD1
  go_wp2_with (fail)
  (with_reducible refine (fuseelaw05_num_some 3 _ _ (St.refl HF.out)).mono ?_)
  rintro e w17 ⟨rfl, hb⟩
  have hB17 := HE.out.2.trans (hb.mono HE.out.2.size)
  have HH := Lib.hid (And.intro hB17 (HG0.out.below (Nat.le_refl _) hB17))
  clear hb hB17
  go_wp2_with (fail)
  (with_reducible refine (sure05 _ HH.out.2).mono ?_)
  rintro e w18 ⟨rfl, hb⟩
  have HI := Lib.hid (HH.out.1.trans (hb.mono HH.out.1.size))
  clear hb
  go_wp2_with (fail)
  go_ret
  exact ⟨rfl, HI.out⟩
end Go.Proofs.YtiljnlhmeolhfaaDoor.MFd
