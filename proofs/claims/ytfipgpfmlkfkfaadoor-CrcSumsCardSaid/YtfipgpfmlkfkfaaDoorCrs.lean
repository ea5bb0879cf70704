/-
  chapter 4's 'sure' walked.
-/
import Derived.Test.YtfipgpfmlkfkfaaDoorK
import Derived.Test.YtfipgpfmlkfkfaaDoorMCbx
import Derived.Lib.SlBytesConst
import Derived.Deep.RegionHeld3
import Derived.LoopTactic
namespace Go.Proofs.YtfipgpfmlkfkfaaDoor.Crs
open Go.RowKit Go.Proofs.YtfipgpfmlkfkfaaDoorW.PrintWords Go.Proofs.YtfipgpfmlkfkfaaDoorW.PrintLast Go.Proofs.YtfipgpfmlkfkfaaDoorW.PrintMore
set_option linter.unusedVariables false
set_option linter.unusedSimpArgs false
/-- a literal's row, marked behind its end: its bytes are read as ever -/
theorem lit_C {W : World} {g : Nat} {t : TypeId} {k : IntKind} {l : List Int} {fr : Nat × Nat} (hg : W.heap[g]? = some (.cells (l.map (Value.int k)).toArray t fr)) (hN : l.length ≤ 1000) : (Kd.int k).C W (some ⟨g, 0, none⟩) l.length l := by
  refine ⟨rfl, by omega, fun _ => ⟨⟨g, 0, none⟩, rfl, fun j p hj => ⟨[.int k p], rfl, rfl, fun i u hu => ?_⟩⟩⟩
  have hi : i = 0 := by
    have := (List.getElem?_eq_some_iff.1 hu).1
    simp at this; exact this
  subst hi
  simp at hu
  subst hu
  have hjl : j < l.length := (List.getElem?_eq_some_iff.1 hj).1
  show W.cell? ((⟨g, 0, none⟩ : Addr).add (j * 1 + 0)) = _
  rw [show (⟨g, 0, none⟩ : Addr).add (j * 1 + 0) = ⟨g, j, none⟩ by unfold Addr.add; split <;> simp_all]
  unfold World.cell?
  rw [hg]
  simp [hj]
theorem e1 : _root_.Go.Proofs.YtfipgpfmlkfkfaaDoor.MCb.crc_Sealed.f 20 [97] = some [97, 67, 190, 183, 232] := by decide +kernel
theorem e2 : _root_.Go.Proofs.YtfipgpfmlkfkfaaDoor.MCb.crc_Opened.f 20 [97, 67, 190, 183, 232] = some ([97], none) := by decide +kernel
theorem e3 : _root_.Go.Proofs.YtfipgpfmlkfkfaaDoor.MCb.crc_Opened.f 20 [97, 98, 99, 100, 101] = some ([], some 4) := by decide +kernel
theorem e4 : _root_.Go.Proofs.YtfipgpfmlkfkfaaDoor.MCb.crc_Sum.f 20 [49, 50, 51, 52, 53, 54, 55, 56, 57] = some 3421780262 := by decide +kernel
set_option maxRecDepth 100000 in
set_option maxHeartbeats 4000000 in
theorem sure_walk (w : World) (hgL : HG w) :
    Calls Tryd.prog 25 #[] w fun e w' => e = .returned (.bool true) ∧ Below w.heap.size w w' := by
  have kc := fun (w : World) (C : Array Value) (n c : Nat) => Lib.run_convert_bytes_const (P := Tryd.prog) w 54 5 C n c Tryd.underlying54 Tryd.underlying5
  have HG' := Lib.hid hgL
  have ew0 : _root_.Go.Proofs.YtfipgpfmlkfkfaaDoor.MCb.errW none = .nilIface := rfl
  have ew4 : _root_.Go.Proofs.YtfipgpfmlkfkfaaDoor.MCb.errW (some 4) = .iface 115 (.int .i64 4) := rfl
  clear hgL
  go_enter Tryd.func25, Tryd.ntmps25
  go_wp2_with (fail)
  have hl1 := heap_alloc_new w (.cells #[.int .u8 97] 5 (1, 2))
  have hB1 := (Below.refl w.heap.size w).alloc (Nat.le_refl _) (.cells #[.int .u8 97] 5 (1, 2))
  have hC1 := lit_C (l := [97]) hl1 (by simp)
  refine (_root_.Go.Proofs.YtfipgpfmlkfkfaaDoor.MCb.crc_Sealed.calls 20 (fun k => k < (w.alloc (.cells #[.int .u8 97] 5 (1, 2))).heap.size) (some ⟨w.heap.size, 0, none⟩) 1 [97] [97, 67, 190, 183, 232] _ (Kd.V_mk (by simp) (Kd.C_F (Kd.heap_int .u8) hC1)) e1).mono ?_
  rintro e w2 ⟨v2, rfl, hR2, hb2⟩
  have hB2 := hB1.trans (hb2.mono hB1.size)
  obtain ⟨A2, c2, rfl⟩ := Kd.R_slice hR2
  have h2 := Kd.R_reads' hR2
  have H2 := Lib.hid (And.intro hB2 h2)
  clear hl1 hB1 hC1 hb2 hB2 h2 hR2
  go_wp2_with (fail)
  refine (_root_.Go.Proofs.YtfipgpfmlkfkfaaDoor.MCb.crc_Opened.calls 20 A2 c2 [97, 67, 190, 183, 232] [97] none _ H2.out.2.2.2 H2.out.2.2.1 e2).mono ?_
  rintro e w3 ⟨v3, rfl, hR3, hb3⟩
  have hB3 := H2.out.1.trans (hb3.mono H2.out.1.size)
  have hR3' := Kd.R_lower hR3 H2.out.1.size
  obtain ⟨A3, c3, rfl⟩ := Kd.R_slice hR3
  have H3 := Lib.hid (And.intro hB3 hR3')
  clear hR3 hR3' hB3 hb3 H2
  go_wp2_with (fail)
  have hl1 := heap_alloc_new w3 (.cells #[.int .u8 97, .int .u8 98, .int .u8 99, .int .u8 100, .int .u8 101] 5 (5, 6))
  have hB1 := H3.out.1.alloc H3.out.1.size (.cells #[.int .u8 97, .int .u8 98, .int .u8 99, .int .u8 100, .int .u8 101] 5 (5, 6))
  have hC1 := lit_C (l := [97, 98, 99, 100, 101]) hl1 (by simp)
  have hR1 := Kd.R_alloc H3.out.2 (.cells #[.int .u8 97, .int .u8 98, .int .u8 99, .int .u8 100, .int .u8 101] 5 (5, 6))
  refine (_root_.Go.Proofs.YtfipgpfmlkfkfaaDoor.MCb.crc_Opened.calls 20 (some ⟨w3.heap.size, 0, none⟩) 5 [97, 98, 99, 100, 101] [] (some 4) _ hC1 (by simp) e3).mono ?_
  rintro e w4 ⟨v4, rfl, _, hb4⟩
  have hB4 := hB1.trans (hb4.mono hB1.size)
  have hR4 := Kd.R_below hR1 hb4
  have H4 := Lib.hid (And.intro hB4 hR4)
  clear hl1 hB1 hC1 hR1 hb4 hB4 hR4 H3
  go_wp2_with (fail)
  have hl1 := heap_alloc_new w4 (.cells #[.int .u8 49, .int .u8 50, .int .u8 51, .int .u8 52, .int .u8 53, .int .u8 54, .int .u8 55, .int .u8 56, .int .u8 57] 5 (9, 10))
  have hB1 := H4.out.1.alloc H4.out.1.size (.cells #[.int .u8 49, .int .u8 50, .int .u8 51, .int .u8 52, .int .u8 53, .int .u8 54, .int .u8 55, .int .u8 56, .int .u8 57] 5 (9, 10))
  have hC1 := lit_C (l := [49, 50, 51, 52, 53, 54, 55, 56, 57]) hl1 (by simp)
  have hR1 := Kd.R_alloc H4.out.2 (.cells #[.int .u8 49, .int .u8 50, .int .u8 51, .int .u8 52, .int .u8 53, .int .u8 54, .int .u8 55, .int .u8 56, .int .u8 57] 5 (9, 10))
  refine (_root_.Go.Proofs.YtfipgpfmlkfkfaaDoor.MCb.crc_Sum.calls 20 (some ⟨w4.heap.size, 0, none⟩) 9 [49, 50, 51, 52, 53, 54, 55, 56, 57] 3421780262 _ hC1 (by simp) e4).mono ?_
  rintro e w5 ⟨rfl, hd⟩
  have hb5 := hd.below
  have hB5 := hB1.trans (hb5.mono hB1.size)
  have hR5 := Kd.R_below hR1 hb5
  have hcv := Kd.C_string (P := Tryd.prog) (A := A3) (c := c3) Tryd.underlying54 Tryd.underlying5 Tryd.underlying9 (Kd.R_reads' hR5).2.2
  have hcv' : (convert 54 9 (.slice A3 1 c3)).run Tryd.prog w5 = .ok (.string (⟨#[97]⟩ : ByteArray)) w5 := hcv
  clear hcv
  have hG5 := HG'.out.below (Nat.le_refl _) hB5
  have HB5 := Lib.hid (And.intro hB5 hG5)
  clear hl1 hB1 hC1 hR1 hb5 hB5 hR5 hd hG5 H4 HG'
  go_wp2_with (fail)
  refine (_root_.Go.Proofs.YtfipgpfmlkfkfaaDoor.fuseelaw04_num_some 4 w5 w5 (St.refl HB5.out.2)).mono ?_
  rintro e w6 ⟨rfl, hb6⟩
  have HB6 := Lib.hid (HB5.out.1.trans (hb6.mono HB5.out.1.size))
  clear hb6 hcv'
  go_wp2
  go_ret
  exact ⟨rfl, HB6.out⟩
end Go.Proofs.YtfipgpfmlkfkfaaDoor.Crs
