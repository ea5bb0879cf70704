/-
  fuseeref05.Text walked.
-/
import Derived.Test.YtiljnlhmeolhfaaDoorF5
import Derived.Lib.ConvBytes
namespace Go.Proofs.YtiljnlhmeolhfaaDoor.MFd
open Go.RowKit Go.Proofs.YtiljnlhmeolhfaaDoorW.PrintWords Go.Proofs.YtiljnlhmeolhfaaDoorW.PrintLast Go.Proofs.YtiljnlhmeolhfaaDoorW.PrintMore
set_option linter.unusedVariables false
set_option linter.unusedSimpArgs false

theorem bytesWorld_below (w : World) (e : TypeId) (s : ByteArray) : Below w.heap.size w (Lib.bytesWorld w e s) :=
  ⟨rfl, rfl, rfl, by rw [Lib.bytesWorld_size]; omega, fun k hk => Lib.bytesWorld_at_old w e s k hk⟩
theorem bytesWorld_sl (w : World) (e : TypeId) (s : ByteArray) (c : Nat) (hc : s.size ≤ c) (hs : s.size ≤ 1000) : Sl (Lib.bytesWorld w e s) (some ⟨w.heap.size, 0, none⟩) s.size c (bytesOf s) := by
  refine ⟨?_, (bytesOf_len s).symm, hc⟩
  refine Kd.C_of_reads (enc := Value.int .u8) (d := (0 : Int)) (h1 := fun _ => rfl) ⟨rfl, by rw [bytesOf_len]; omega, fun hp => ⟨_, rfl, fun j hj => ?_⟩⟩
  rw [bytesOf_len] at hj
  have h := Lib.bytesWorld_cell w e s j hj
  rw [show (⟨w.heap.size, 0, none⟩ : Addr).add j = ⟨w.heap.size, j, none⟩ by unfold Addr.add; split <;> simp_all, h]
  unfold bytesOf
  rw [List.getD_eq_getElem?_getD, List.getD_eq_getElem?_getD, List.getElem?_map]
  have hj' : j < s.data.toList.length := by simpa using hj
  rw [List.getElem?_eq_getElem hj']
  rfl
set_option maxRecDepth 100000 in
set_option maxHeartbeats 4000000 in
theorem rtext_calls (A : Option Addr) (n c : Nat) (l : List Int) (s : ByteArray) (w : World) (h : Sl w A n c l) (hl : l.length ≤ 100000) :
    Calls Tryd.prog 24 #[.slice A n c, .string s] w fun e w' => ∃ v, e = .returned (.tuple #[v, .int .i64 (if s.size ≤ 255 then 0 else 5)]) ∧ Kd.R (Kd.int .u8) 5 w' w.heap.size (fun _ => True) v (if s.size ≤ 255 then l ++ (s.size : Int) :: bytesOf s else []) ∧ Below w.heap.size w w' := by
  by_cases hs : s.size ≤ 255
  · rw [if_pos hs, if_pos hs]
    have kb := fun W : World => Lib.run_convert_string_bytes (P := Tryd.prog) W 9 36 5 s Tryd.underlying9 Tryd.underlying36 Tryd.underlying5
    obtain ⟨hC, hn, hc⟩ := h
    have hw : IntKind.u64.wrap (s.size : Int) = s.size := by rw [IntKind.wrap_u64]; omega
    have hp : fuseeref05_Put.f 20 l (s.size : Int) 1 = some (l ++ [(s.size : Int)]) := by
      have := put_eq 20 1 (by omega) (by omega) l (s.size : Int) (by omega) (by omega) hl
      rw [show ((1 : Nat) : Int) = 1 from rfl] at this
      rw [this]
      simp only [bytesN]
      rw [show (s.size : Int) % 256 = s.size by omega]
    have hP := fun W (hB : Below w.heap.size w W) => fuseeref05_Put.calls 20 A c l (s.size : Int) 1 _ W (Kd.C_below hC hB) (hn ▸ hc) hp
    rw [← hn] at hP
    have hgt : ¬ (255 : Int) < (s.size : Int) := by omega
    have HH := Lib.hid (And.intro hs hl)
    clear hC hc hp hw hn
    go_enter Tryd.func24, Tryd.ntmps24
    go_wp2_with (first | (go_at_call 26; (with_reducible refine (hP _ (Below.refl _ _)).mono ?_); rintro e w2 ⟨v, rfl, hR, hb⟩; have H2 := Aside0.mk (And.intro hR hb); clear hR hb) | ((with_reducible refine gate_builtin (b := .append) (xs := #[.tmp 13, .tmp 15]) rfl ?_); at_builtin; refine Kd.R_append_rows (Kd.int .u8) (w0 := w) w.heap.size rfl (.tmp 13) (.tmp 15) 36 5 (.int .u8 0) 1 rfl Tryd.underlying36 info5 rfl (by decide) (by omega) v _ (bytesOf s) _ _ _ (fun _ => True) (fun _ => False) rfl rfl (Kd.R_below H2.out.1 (bytesWorld_below _ _ _)) ?aR (fun _ _ h => h) (fun _ h => h.elim) (fun _ _ => trivial) (H2.out.2.trans ((bytesWorld_below _ _ _).mono H2.out.2.size)) ?aS ?aL ?_; (case aR => (have hq := (bytesWorld_sl w2 5 s s.size (Nat.le_refl _) (by have := HH.out; omega)).rd; rw [bytesOf_len] at hq; exact hq)); (case aS => (have := H2.out.2.size; rw [Lib.bytesWorld_size]; omega)); (case aL => (have := HH.out; simp; omega)); intro v1 w5 hR hB hg hat; have H5 := Aside0.mk (And.intro hR hB); clear hR hB hg hat))
    go_ret2
    refine ⟨_, rfl, ?_, H5.out.2⟩
    have := H5.out.1
    rwa [List.append_assoc] at this
  · rw [if_neg hs, if_neg hs]
    have hgt : (255 : Int) < (s.size : Int) := by omega
    clear h hl
    go_enter Tryd.func24, Tryd.ntmps24
    go_wp2
    go_ret2
    exact ⟨_, rfl, Kd.R_nil _ _ _ _ _, Below.refl _ _⟩
end Go.Proofs.YtiljnlhmeolhfaaDoor.MFd
