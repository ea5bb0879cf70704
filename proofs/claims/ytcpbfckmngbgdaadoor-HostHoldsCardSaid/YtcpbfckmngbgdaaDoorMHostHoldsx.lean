/- Printed by wip/gen/mp.py: Go functions as plain Lean functions, and that the calls do what these say. -/
import Derived.Test.YtcpbfckmngbgdaaDoorMHox
import Derived.Test.YtcpbfckmngbgdaaDoorMHsx
import Derived.Test.YtcpbfckmngbgdaaDoorProg
import Derived.Below
import Derived.Deep.Draws
import Derived.Deep.AppendLies
import Derived.Maps.AppendAt
import Derived.OwnWalk
import Derived.Laws.BytesArg
import Derived.Laws.MakeOwn
import Derived.Laws.OwnMore
import Derived.Deep.OwnRows
import Derived.Tactics
import Derived.Lib.ConvBytes
import Derived.Laws.Slices
import Derived.WalkKit
import Derived.KernelRfl
import Derived.RowKit3
import Derived.Deep.LoopGhost
import Derived.Deep.QuietTactic
import Derived.BigQuiet
import Derived.WideLaws
import Derived.Deep.DeepCutAuto
import Derived.Deep.CutBlock
import Derived.Deep.RegionHeld3
import Derived.Laws.Rows
import Derived.Lib.AppendStr
import Derived.ArgAppend
import Derived.Laws.IdiomCopy
import Derived.OrdersHeld
import Derived.Laws.BitsLemmas
import Derived.RowKit
import Derived.Test.YtcpbfckmngbgdaaDoorK
import Derived.Test.YtcpbfckmngbgdaaDoorRow
import Derived.Test.YtcpbfckmngbgdaaDoorSv
import Derived.Test.YtcpbfckmngbgdaaDoorIs
import Derived.Test.YtcpbfckmngbgdaaDoorWWords
import Derived.Test.YtcpbfckmngbgdaaDoorWLast
import Derived.Test.YtcpbfckmngbgdaaDoorWTab
import Derived.Test.YtcpbfckmngbgdaaDoorWFour
import Derived.Test.YtcpbfckmngbgdaaDoorWQPut
import Derived.Test.YtcpbfckmngbgdaaDoorWApart
import Derived.Test.YtcpbfckmngbgdaaDoorWArr
import Derived.Test.YtcpbfckmngbgdaaDoorWZeros
import Derived.Test.YtcpbfckmngbgdaaDoorWFoot
import Derived.Test.YtcpbfckmngbgdaaDoorWKept
import Derived.Test.YtcpbfckmngbgdaaDoorWShare
import Derived.Test.YtcpbfckmngbgdaaDoorWN
import Derived.Test.YtcpbfckmngbgdaaDoorWFootNe
import Derived.Test.YtcpbfckmngbgdaaDoorWAt
import Derived.Test.YtcpbfckmngbgdaaDoorWEqStruct
import Derived.Test.YtcpbfckmngbgdaaDoorWRepsOne
import Derived.Test.YtcpbfckmngbgdaaDoorWInv
import Derived.Test.YtcpbfckmngbgdaaDoorWInvWords
import Derived.Test.YtcpbfckmngbgdaaDoorWGuard
import Derived.Test.YtcpbfckmngbgdaaDoorWNEv
import Derived.Test.YtcpbfckmngbgdaaDoorWMore
namespace Go.Proofs.YtcpbfckmngbgdaaDoor.MHostHolds
open Go.RowKit Go.Proofs.YtcpbfckmngbgdaaDoorW.PrintWords Go.Proofs.YtcpbfckmngbgdaaDoorW.PrintLast Go.Proofs.YtcpbfckmngbgdaaDoorW.PrintMore Go.Proofs.YtcpbfckmngbgdaaDoor.MHo Go.Proofs.YtcpbfckmngbgdaaDoor.MHs
attribute [local go_sem] conv_fl eq_fl eq_fl2 max2_int min2_int max_two min_two max_three min_three max_four min_four   -- for this text's walks alone
set_option linter.unusedVariables false
set_option linter.unusedSimpArgs false



/-! #### struct type 151 -/
structure S151 where
  f0 : Int
  f1 : Int
  f2 : Bool
  f3 : Int
  f4 : Int
def z151 : S151 := ⟨(0 : Int), (0 : Int), false, (0 : Int), (0 : Int)⟩
def k151 : Kd S151 := Kd.iso (Kd.pair (Kd.int .u32) (Kd.pair (Kd.int .i16) (Kd.pair Kd.bool (Kd.pair (Kd.int .u16) (Kd.int .u16))))) (fun x : S151 => (x.f0, x.f1, x.f2, x.f3, x.f4))
theorem k151_open {w : World} {x : S151} {cs : List Value} (h : k151.K w x cs) : cs = [.int .u32 x.f0, .int .i16 x.f1, .bool x.f2, .int .u16 x.f3, .int .u16 x.f4] := by
  obtain ⟨_, _, rfl, rfl, ⟨_, _, rfl, rfl, ⟨_, _, rfl, rfl, ⟨_, _, rfl, rfl, rfl⟩⟩⟩⟩ := h
  exact rfl
theorem k151_openM {w : World} {base : Nat} {ok : Nat → Prop} {x : S151} {cs : List Value} (h : k151.M w base ok x cs) : cs = [.int .u32 x.f0, .int .i16 x.f1, .bool x.f2, .int .u16 x.f3, .int .u16 x.f4] := by
  obtain ⟨_, _, rfl, rfl, ⟨_, _, rfl, rfl, ⟨_, _, rfl, rfl, ⟨_, _, rfl, rfl, rfl⟩⟩⟩⟩ := h
  exact rfl
theorem k151_mk (w : World) (x : S151)  : k151.K w x [.int .u32 x.f0, .int .i16 x.f1, .bool x.f2, .int .u16 x.f3, .int .u16 x.f4] := ⟨[.int .u32 x.f0], [.int .i16 x.f1, .bool x.f2, .int .u16 x.f3, .int .u16 x.f4], rfl, rfl, ⟨[.int .i16 x.f1], [.bool x.f2, .int .u16 x.f3, .int .u16 x.f4], rfl, rfl, ⟨[.bool x.f2], [.int .u16 x.f3, .int .u16 x.f4], rfl, rfl, ⟨[.int .u16 x.f3], [.int .u16 x.f4], rfl, rfl, rfl⟩⟩⟩⟩
theorem k151_mkM (w : World) (base : Nat) (ok : Nat → Prop) (x : S151)  : k151.M w base ok x [.int .u32 x.f0, .int .i16 x.f1, .bool x.f2, .int .u16 x.f3, .int .u16 x.f4] := ⟨[.int .u32 x.f0], [.int .i16 x.f1, .bool x.f2, .int .u16 x.f3, .int .u16 x.f4], rfl, rfl, ⟨[.int .i16 x.f1], [.bool x.f2, .int .u16 x.f3, .int .u16 x.f4], rfl, rfl, ⟨[.bool x.f2], [.int .u16 x.f3, .int .u16 x.f4], rfl, rfl, ⟨[.int .u16 x.f3], [.int .u16 x.f4], rfl, rfl, rfl⟩⟩⟩⟩
def rd_T151 (xs : List S151) (i : Int) : S151 := xs.getD i.toNat z151
theorem at_T151 {w : World} {A : Option Addr} {n : Nat} {xs : List S151} (h : Kd.C k151 w A n xs) (i : Int) (h0 : 0 ≤ i) (h1 : i < n) : ∃ ad , A = some ad ∧ w.cell? (ad.add (i.toNat * 5)) = some (.int .u32 (rd_T151 xs i).f0) ∧ w.cell? ⟨(ad.add (i.toNat * 5)).block, (ad.add (i.toNat * 5)).off + 1, none⟩ = some (.int .i16 (rd_T151 xs i).f1) ∧ w.cell? ⟨(ad.add (i.toNat * 5)).block, (ad.add (i.toNat * 5)).off + 2, none⟩ = some (.bool (rd_T151 xs i).f2) ∧ w.cell? ⟨(ad.add (i.toNat * 5)).block, (ad.add (i.toNat * 5)).off + 3, none⟩ = some (.int .u16 (rd_T151 xs i).f3) ∧ w.cell? ⟨(ad.add (i.toNat * 5)).block, (ad.add (i.toNat * 5)).off + 4, none⟩ = some (.int .u16 (rd_T151 xs i).f4) := by
  obtain ⟨ad, c, e, _, hK, hc0⟩ := Kd.C_get h z151 i h0 h1
  have hc : ∀ j u, c[j]? = some u → w.cell? (ad.add (i.toNat * 5 + j)) = some u := hc0
  obtain rfl := k151_open hK
  exact ⟨ad, e, hc 0 _ rfl, by rw [← add_field _ _ 1 (by omega)]; exact hc 1 _ rfl, by rw [← add_field _ _ 2 (by omega)]; exact hc 2 _ rfl, by rw [← add_field _ _ 3 (by omega)]; exact hc 3 _ rfl, by rw [← add_field _ _ 4 (by omega)]; exact hc 4 _ rfl⟩

end Go.Proofs.YtcpbfckmngbgdaaDoor.MHostHolds
namespace Go.Proofs.YtcpbfckmngbgdaaDoor.MHostHolds
open Go.RowKit Go.Proofs.YtcpbfckmngbgdaaDoorW.PrintWords Go.Proofs.YtcpbfckmngbgdaaDoorW.PrintLast Go.Proofs.YtcpbfckmngbgdaaDoorW.PrintMore Go.Proofs.YtcpbfckmngbgdaaDoor.MHo Go.Proofs.YtcpbfckmngbgdaaDoor.MHs
attribute [local go_sem] conv_fl eq_fl eq_fl2 max2_int min2_int max_two min_two max_three min_three max_four min_four   -- for this text's walks alone
set_option linter.unusedVariables false
set_option linter.unusedSimpArgs false

/-! ### fuseelaw18_HostHolds: function 11 -/
mutual
def fuseelaw18_HostHolds.j0 : Nat → Int → List (S151) → Option Int → Bool → Int → Int → Int → Int → Int → Int → Int → Bool → Int → Int → Int → Int → Int → Option (Bool)
 | 0, _, _, _, _, _, _, _, _, _, _, _, _, _, _, _, _, _ => none
 | k + 1, x0, x2, x9, x57, x438000, x438001, x438002, x438003, x438004, x438005, x438006, x438007, x438008, x438009, x438010, x438011, x438012 => if x57 = true then (if x9.isNone = true then ((fuseelaw18_sure.f k).bind fun t440 => (some t440)) else (none)) else (fuseelaw18_HostHolds.l0 k x2 0 0 x0 0 x438000 x438001 x438002 x438003 x438004 x438005 x438006 x438007 x438008 x438009 x438010 x438011 x438012)
def fuseelaw18_HostHolds.l0 : Nat → List (S151) → Int → Int → Int → Int → Int → Int → Int → Int → Int → Int → Int → Bool → Int → Int → Int → Int → Int → Option (Bool)
 | 0, _, _, _, _, _, _, _, _, _, _, _, _, _, _, _, _, _, _ => none
 | k + 1, x2, x10, x11, x12, x13, x438000, x438001, x438002, x438003, x438004, x438005, x438006, x438007, x438008, x438009, x438010, x438011, x438012 => if x13 < (x2.length : Int) then (if 0 ≤ x13 then (if (rd_T151 x2 x13).f2 = true then ((host_Sync.f k x438000 x438001 x438002 x438003 x438004 x438005 x438006 x438007 x438008 x438009 x438010 x438011 x438012 (wrap64 (x10 + (wrap64 ((rd_T151 x2 x13).f0)))) (wrap64 ((wrap64 ((wrap64 (x12 + (wrap64 (x11 + (wrap64 ((rd_T151 x2 x13).f0)))))) + (wrap64 (Int.tdiv (wrap64 ((wrap64 (Int.tdiv (wrap64 ((wrap64 (x11 + (wrap64 ((rd_T151 x2 x13).f0)))) * 100)) 1073741824)) * (wrap64 ((rd_T151 x2 x13).f1)))) 32768)))) - (wrap64 ((rd_T151 x2 x13).f3)))) (wrap64 ((wrap64 ((wrap64 (x12 + (wrap64 (x11 + (wrap64 ((rd_T151 x2 x13).f0)))))) + (wrap64 (Int.tdiv (wrap64 ((wrap64 (Int.tdiv (wrap64 ((wrap64 (x11 + (wrap64 ((rd_T151 x2 x13).f0)))) * 100)) 1073741824)) * (wrap64 ((rd_T151 x2 x13).f1)))) 32768)))) + (wrap64 ((rd_T151 x2 x13).f4))))).bind fun bt445 => (if bt445.2.2.2.2.2.2.2.2.2.2.2.2.2.isNone = true then (fuseelaw18_HostHolds.j2 k x2 (wrap64 (x10 + (wrap64 ((rd_T151 x2 x13).f0)))) 0 (wrap64 ((wrap64 (x12 + (wrap64 (x11 + (wrap64 ((rd_T151 x2 x13).f0)))))) + (wrap64 (Int.tdiv (wrap64 ((wrap64 (Int.tdiv (wrap64 ((wrap64 (x11 + (wrap64 ((rd_T151 x2 x13).f0)))) * 100)) 1073741824)) * (wrap64 ((rd_T151 x2 x13).f1)))) 32768)))) x13 (wrap64 ((wrap64 (x12 + (wrap64 (x11 + (wrap64 ((rd_T151 x2 x13).f0)))))) + (wrap64 (Int.tdiv (wrap64 ((wrap64 (Int.tdiv (wrap64 ((wrap64 (x11 + (wrap64 ((rd_T151 x2 x13).f0)))) * 100)) 1073741824)) * (wrap64 ((rd_T151 x2 x13).f1)))) 32768)))) bt445.1 bt445.2.1 bt445.2.2.1 bt445.2.2.2.1 bt445.2.2.2.2.1 bt445.2.2.2.2.2.1 bt445.2.2.2.2.2.2.1 bt445.2.2.2.2.2.2.2.1 bt445.2.2.2.2.2.2.2.2.1 bt445.2.2.2.2.2.2.2.2.2.1 bt445.2.2.2.2.2.2.2.2.2.2.1 bt445.2.2.2.2.2.2.2.2.2.2.2.1 bt445.2.2.2.2.2.2.2.2.2.2.2.2.1) else (none))) else (fuseelaw18_HostHolds.j2 k x2 (wrap64 (x10 + (wrap64 ((rd_T151 x2 x13).f0)))) (wrap64 (x11 + (wrap64 ((rd_T151 x2 x13).f0)))) x12 x13 (wrap64 ((wrap64 (x12 + (wrap64 (x11 + (wrap64 ((rd_T151 x2 x13).f0)))))) + (wrap64 (Int.tdiv (wrap64 ((wrap64 (Int.tdiv (wrap64 ((wrap64 (x11 + (wrap64 ((rd_T151 x2 x13).f0)))) * 100)) 1073741824)) * (wrap64 ((rd_T151 x2 x13).f1)))) 32768)))) x438000 x438001 x438002 x438003 x438004 x438005 x438006 x438007 x438008 x438009 x438010 x438011 x438012)) else (none)) else ((fuseelaw18_sure.f k).bind fun t441 => (some t441))
def fuseelaw18_HostHolds.j2 : Nat → List (S151) → Int → Int → Int → Int → Int → Int → Int → Int → Int → Int → Int → Int → Bool → Int → Int → Int → Int → Int → Option (Bool)
 | 0, _, _, _, _, _, _, _, _, _, _, _, _, _, _, _, _, _, _, _ => none
 | k + 1, x2, x10, x11, x12, x13, x17, x438000, x438001, x438002, x438003, x438004, x438005, x438006, x438007, x438008, x438009, x438010, x438011, x438012 => (host_Now.f k x438000 x438001 x438002 x438003 x438004 x438005 x438006 x438007 x438008 x438009 x438010 x438011 x438012 x10).bind fun bt460 => (if bt460.2.2.isNone = true then (if (wrap64 (bt460.1 - x17)) > bt460.2.1 then (none) else (if (wrap64 (x17 - bt460.1)) > bt460.2.1 then (none) else (fuseelaw18_HostHolds.l0 k x2 x10 x11 x12 (wrap64 (x13 + 1)) x438000 x438001 x438002 x438003 x438004 x438005 x438006 x438007 x438008 x438009 x438010 x438011 x438012))) else ((fuseelaw18_num.f (some (bt460.2.2.getD 0))).bind fun t464 => (if t464 = 13 then (if x438007 = true then (fuseelaw18_HostHolds.j3 k x2 x10 x11 x12 x13 (bt460.2.1 != 0) x438000 x438001 x438002 x438003 x438004 x438005 x438006 x438007 x438008 x438009 x438010 x438011 x438012) else (fuseelaw18_HostHolds.j3 k x2 x10 x11 x12 x13 false x438000 x438001 x438002 x438003 x438004 x438005 x438006 x438007 x438008 x438009 x438010 x438011 x438012)) else (fuseelaw18_HostHolds.j3 k x2 x10 x11 x12 x13 true x438000 x438001 x438002 x438003 x438004 x438005 x438006 x438007 x438008 x438009 x438010 x438011 x438012))))
def fuseelaw18_HostHolds.j3 : Nat → List (S151) → Int → Int → Int → Int → Bool → Int → Int → Int → Int → Int → Int → Int → Bool → Int → Int → Int → Int → Int → Option (Bool)
 | 0, _, _, _, _, _, _, _, _, _, _, _, _, _, _, _, _, _, _, _ => none
 | k + 1, x2, x10, x11, x12, x13, x140, x438000, x438001, x438002, x438003, x438004, x438005, x438006, x438007, x438008, x438009, x438010, x438011, x438012 => if x140 = true then (none) else (fuseelaw18_HostHolds.l0 k x2 x10 x11 x12 (wrap64 (x13 + 1)) x438000 x438001 x438002 x438003 x438004 x438005 x438006 x438007 x438008 x438009 x438010 x438011 x438012)
end
def fuseelaw18_HostHolds.f (k : Nat) (a0 : Int) (a1_0 : Int) (a1_1 : Int) (a1_2 : Int) (l2 : List (S151)) : Option (Bool) := (fuseelaw18_rule.f).bind fun bt415 => ((host_New.f k bt415.1 bt415.2.1 bt415.2.2.1 (Go.bits .and .i64 (wrap64 (a1_0)) 1023) (Go.bits .and .i64 (wrap64 (a1_1)) 1023) (Go.bits .and .i64 (wrap64 (a1_2)) 32767) bt415.2.2.2.2.2.2).bind fun bt423 => (if bt423.2.2.2.2.2.2.2.2.2.2.2.2.2.isNone = true then (if a0 < (-1152921504606846976) then (fuseelaw18_HostHolds.j0 k a0 l2 none true bt423.1 bt423.2.1 bt423.2.2.1 bt423.2.2.2.1 bt423.2.2.2.2.1 bt423.2.2.2.2.2.1 bt423.2.2.2.2.2.2.1 bt423.2.2.2.2.2.2.2.1 bt423.2.2.2.2.2.2.2.2.1 bt423.2.2.2.2.2.2.2.2.2.1 bt423.2.2.2.2.2.2.2.2.2.2.1 bt423.2.2.2.2.2.2.2.2.2.2.2.1 bt423.2.2.2.2.2.2.2.2.2.2.2.2.1) else (if a0 > 1152921504606846976 then (fuseelaw18_HostHolds.j0 k a0 l2 none true bt423.1 bt423.2.1 bt423.2.2.1 bt423.2.2.2.1 bt423.2.2.2.2.1 bt423.2.2.2.2.2.1 bt423.2.2.2.2.2.2.1 bt423.2.2.2.2.2.2.2.1 bt423.2.2.2.2.2.2.2.2.1 bt423.2.2.2.2.2.2.2.2.2.1 bt423.2.2.2.2.2.2.2.2.2.2.1 bt423.2.2.2.2.2.2.2.2.2.2.2.1 bt423.2.2.2.2.2.2.2.2.2.2.2.2.1) else (fuseelaw18_HostHolds.j0 k a0 l2 none (decide ((l2.length : Int) > 60)) bt423.1 bt423.2.1 bt423.2.2.1 bt423.2.2.2.1 bt423.2.2.2.2.1 bt423.2.2.2.2.2.1 bt423.2.2.2.2.2.2.1 bt423.2.2.2.2.2.2.2.1 bt423.2.2.2.2.2.2.2.2.1 bt423.2.2.2.2.2.2.2.2.2.1 bt423.2.2.2.2.2.2.2.2.2.2.1 bt423.2.2.2.2.2.2.2.2.2.2.2.1 bt423.2.2.2.2.2.2.2.2.2.2.2.2.1))) else (fuseelaw18_HostHolds.j0 k a0 l2 (some (bt423.2.2.2.2.2.2.2.2.2.2.2.2.2.getD 0)) true bt423.1 bt423.2.1 bt423.2.2.1 bt423.2.2.2.1 bt423.2.2.2.2.1 bt423.2.2.2.2.2.1 bt423.2.2.2.2.2.2.1 bt423.2.2.2.2.2.2.2.1 bt423.2.2.2.2.2.2.2.2.1 bt423.2.2.2.2.2.2.2.2.2.1 bt423.2.2.2.2.2.2.2.2.2.2.1 bt423.2.2.2.2.2.2.2.2.2.2.2.1 bt423.2.2.2.2.2.2.2.2.2.2.2.2.1)))
theorem fuseelaw18_HostHolds.mono_l : ∀ k, (∀ y0 y1 y2 y3 y4 y5 y6 y7 y8 y9 y10 y11 y12 y13 y14 y15 y16, LeO (fuseelaw18_HostHolds.j0 k y0 y1 y2 y3 y4 y5 y6 y7 y8 y9 y10 y11 y12 y13 y14 y15 y16) (fuseelaw18_HostHolds.j0 (k + 1) y0 y1 y2 y3 y4 y5 y6 y7 y8 y9 y10 y11 y12 y13 y14 y15 y16)) ∧ (∀ y0 y1 y2 y3 y4 y5 y6 y7 y8 y9 y10 y11 y12 y13 y14 y15 y16 y17, LeO (fuseelaw18_HostHolds.l0 k y0 y1 y2 y3 y4 y5 y6 y7 y8 y9 y10 y11 y12 y13 y14 y15 y16 y17) (fuseelaw18_HostHolds.l0 (k + 1) y0 y1 y2 y3 y4 y5 y6 y7 y8 y9 y10 y11 y12 y13 y14 y15 y16 y17)) ∧ (∀ y0 y1 y2 y3 y4 y5 y6 y7 y8 y9 y10 y11 y12 y13 y14 y15 y16 y17 y18, LeO (fuseelaw18_HostHolds.j2 k y0 y1 y2 y3 y4 y5 y6 y7 y8 y9 y10 y11 y12 y13 y14 y15 y16 y17 y18) (fuseelaw18_HostHolds.j2 (k + 1) y0 y1 y2 y3 y4 y5 y6 y7 y8 y9 y10 y11 y12 y13 y14 y15 y16 y17 y18)) ∧ (∀ y0 y1 y2 y3 y4 y5 y6 y7 y8 y9 y10 y11 y12 y13 y14 y15 y16 y17 y18, LeO (fuseelaw18_HostHolds.j3 k y0 y1 y2 y3 y4 y5 y6 y7 y8 y9 y10 y11 y12 y13 y14 y15 y16 y17 y18) (fuseelaw18_HostHolds.j3 (k + 1) y0 y1 y2 y3 y4 y5 y6 y7 y8 y9 y10 y11 y12 y13 y14 y15 y16 y17 y18))
 | 0 => ⟨fun _ _ _ _ _ _ _ _ _ _ _ _ _ _ _ _ _ r h => by simp [fuseelaw18_HostHolds.j0] at h, fun _ _ _ _ _ _ _ _ _ _ _ _ _ _ _ _ _ _ r h => by simp [fuseelaw18_HostHolds.l0] at h, fun _ _ _ _ _ _ _ _ _ _ _ _ _ _ _ _ _ _ _ r h => by simp [fuseelaw18_HostHolds.j2] at h, fun _ _ _ _ _ _ _ _ _ _ _ _ _ _ _ _ _ _ _ r h => by simp [fuseelaw18_HostHolds.j3] at h⟩
 | k + 1 => by
  obtain ⟨ih0, ih1, ih2, ih3⟩ := fuseelaw18_HostHolds.mono_l k
  refine ⟨?_, ?_, ?_, ?_⟩
  ·intro y0 y1 y2 y3 y4 y5 y6 y7 y8 y9 y10 y11 y12 y13 y14 y15 y16
   unfold fuseelaw18_HostHolds.j0
   repeat' first
   | (with_reducible exact ih0 _ _ _ _ _ _ _ _ _ _ _ _ _ _ _ _ _)
   | (with_reducible exact ih1 _ _ _ _ _ _ _ _ _ _ _ _ _ _ _ _ _ _)
   | (with_reducible exact ih2 _ _ _ _ _ _ _ _ _ _ _ _ _ _ _ _ _ _ _)
   | (with_reducible exact ih3 _ _ _ _ _ _ _ _ _ _ _ _ _ _ _ _ _ _ _)
   | (with_reducible exact fuseelaw18_sure.mono _)
   | (with_reducible exact host_New.mono _ _ _ _ _ _ _ _)
   | (with_reducible exact host_Now.mono _ _ _ _ _ _ _ _ _ _ _ _ _ _ _)
   | (with_reducible exact host_Sync.mono _ _ _ _ _ _ _ _ _ _ _ _ _ _ _ _ _)
   | (with_reducible exact LeO.refl _)
   | (with_reducible exact LeO.none _)
   | (with_reducible refine LeO.ite ?_ ?_)
   | (with_reducible refine LeO.bind ?_ (fun _ => ?_))
   | exact ih0 _ _ _ _ _ _ _ _ _ _ _ _ _ _ _ _ _
   | exact ih1 _ _ _ _ _ _ _ _ _ _ _ _ _ _ _ _ _ _
   | exact ih2 _ _ _ _ _ _ _ _ _ _ _ _ _ _ _ _ _ _ _
   | exact ih3 _ _ _ _ _ _ _ _ _ _ _ _ _ _ _ _ _ _ _
   | exact fuseelaw18_sure.mono _
   | exact host_New.mono _ _ _ _ _ _ _ _
   | exact host_Now.mono _ _ _ _ _ _ _ _ _ _ _ _ _ _ _
   | exact host_Sync.mono _ _ _ _ _ _ _ _ _ _ _ _ _ _ _ _ _
   | exact LeO.none _
   | refine LeO.ite ?_ ?_
   | refine LeO.bind ?_ (fun _ => ?_)
  ·intro y0 y1 y2 y3 y4 y5 y6 y7 y8 y9 y10 y11 y12 y13 y14 y15 y16 y17
   unfold fuseelaw18_HostHolds.l0
   repeat' first
   | (with_reducible exact ih0 _ _ _ _ _ _ _ _ _ _ _ _ _ _ _ _ _)
   | (with_reducible exact ih1 _ _ _ _ _ _ _ _ _ _ _ _ _ _ _ _ _ _)
   | (with_reducible exact ih2 _ _ _ _ _ _ _ _ _ _ _ _ _ _ _ _ _ _ _)
   | (with_reducible exact ih3 _ _ _ _ _ _ _ _ _ _ _ _ _ _ _ _ _ _ _)
   | (with_reducible exact fuseelaw18_sure.mono _)
   | (with_reducible exact host_New.mono _ _ _ _ _ _ _ _)
   | (with_reducible exact host_Now.mono _ _ _ _ _ _ _ _ _ _ _ _ _ _ _)
   | (with_reducible exact host_Sync.mono _ _ _ _ _ _ _ _ _ _ _ _ _ _ _ _ _)
   | (with_reducible exact LeO.refl _)
   | (with_reducible exact LeO.none _)
   | (with_reducible refine LeO.ite ?_ ?_)
   | (with_reducible refine LeO.bind ?_ (fun _ => ?_))
   | exact ih0 _ _ _ _ _ _ _ _ _ _ _ _ _ _ _ _ _
   | exact ih1 _ _ _ _ _ _ _ _ _ _ _ _ _ _ _ _ _ _
   | exact ih2 _ _ _ _ _ _ _ _ _ _ _ _ _ _ _ _ _ _ _
   | exact ih3 _ _ _ _ _ _ _ _ _ _ _ _ _ _ _ _ _ _ _
   | exact fuseelaw18_sure.mono _
   | exact host_New.mono _ _ _ _ _ _ _ _
   | exact host_Now.mono _ _ _ _ _ _ _ _ _ _ _ _ _ _ _
   | exact host_Sync.mono _ _ _ _ _ _ _ _ _ _ _ _ _ _ _ _ _
   | exact LeO.none _
   | refine LeO.ite ?_ ?_
   | refine LeO.bind ?_ (fun _ => ?_)
  ·intro y0 y1 y2 y3 y4 y5 y6 y7 y8 y9 y10 y11 y12 y13 y14 y15 y16 y17 y18
   unfold fuseelaw18_HostHolds.j2
   repeat' first
   | (with_reducible exact ih0 _ _ _ _ _ _ _ _ _ _ _ _ _ _ _ _ _)
   | (with_reducible exact ih1 _ _ _ _ _ _ _ _ _ _ _ _ _ _ _ _ _ _)
   | (with_reducible exact ih2 _ _ _ _ _ _ _ _ _ _ _ _ _ _ _ _ _ _ _)
   | (with_reducible exact ih3 _ _ _ _ _ _ _ _ _ _ _ _ _ _ _ _ _ _ _)
   | (with_reducible exact fuseelaw18_sure.mono _)
   | (with_reducible exact host_New.mono _ _ _ _ _ _ _ _)
   | (with_reducible exact host_Now.mono _ _ _ _ _ _ _ _ _ _ _ _ _ _ _)
   | (with_reducible exact host_Sync.mono _ _ _ _ _ _ _ _ _ _ _ _ _ _ _ _ _)
   | (with_reducible exact LeO.refl _)
   | (with_reducible exact LeO.none _)
   | (with_reducible refine LeO.ite ?_ ?_)
   | (with_reducible refine LeO.bind ?_ (fun _ => ?_))
   | exact ih0 _ _ _ _ _ _ _ _ _ _ _ _ _ _ _ _ _
   | exact ih1 _ _ _ _ _ _ _ _ _ _ _ _ _ _ _ _ _ _
   | exact ih2 _ _ _ _ _ _ _ _ _ _ _ _ _ _ _ _ _ _ _
   | exact ih3 _ _ _ _ _ _ _ _ _ _ _ _ _ _ _ _ _ _ _
   | exact fuseelaw18_sure.mono _
   | exact host_New.mono _ _ _ _ _ _ _ _
   | exact host_Now.mono _ _ _ _ _ _ _ _ _ _ _ _ _ _ _
   | exact host_Sync.mono _ _ _ _ _ _ _ _ _ _ _ _ _ _ _ _ _
   | exact LeO.none _
   | refine LeO.ite ?_ ?_
   | refine LeO.bind ?_ (fun _ => ?_)
  ·intro y0 y1 y2 y3 y4 y5 y6 y7 y8 y9 y10 y11 y12 y13 y14 y15 y16 y17 y18
   unfold fuseelaw18_HostHolds.j3
   repeat' first
   | (with_reducible exact ih0 _ _ _ _ _ _ _ _ _ _ _ _ _ _ _ _ _)
   | (with_reducible exact ih1 _ _ _ _ _ _ _ _ _ _ _ _ _ _ _ _ _ _)
   | (with_reducible exact ih2 _ _ _ _ _ _ _ _ _ _ _ _ _ _ _ _ _ _ _)
   | (with_reducible exact ih3 _ _ _ _ _ _ _ _ _ _ _ _ _ _ _ _ _ _ _)
   | (with_reducible exact fuseelaw18_sure.mono _)
   | (with_reducible exact host_New.mono _ _ _ _ _ _ _ _)
   | (with_reducible exact host_Now.mono _ _ _ _ _ _ _ _ _ _ _ _ _ _ _)
   | (with_reducible exact host_Sync.mono _ _ _ _ _ _ _ _ _ _ _ _ _ _ _ _ _)
   | (with_reducible exact LeO.refl _)
   | (with_reducible exact LeO.none _)
   | (with_reducible refine LeO.ite ?_ ?_)
   | (with_reducible refine LeO.bind ?_ (fun _ => ?_))
   | exact ih0 _ _ _ _ _ _ _ _ _ _ _ _ _ _ _ _ _
   | exact ih1 _ _ _ _ _ _ _ _ _ _ _ _ _ _ _ _ _ _
   | exact ih2 _ _ _ _ _ _ _ _ _ _ _ _ _ _ _ _ _ _ _
   | exact ih3 _ _ _ _ _ _ _ _ _ _ _ _ _ _ _ _ _ _ _
   | exact fuseelaw18_sure.mono _
   | exact host_New.mono _ _ _ _ _ _ _ _
   | exact host_Now.mono _ _ _ _ _ _ _ _ _ _ _ _ _ _ _
   | exact host_Sync.mono _ _ _ _ _ _ _ _ _ _ _ _ _ _ _ _ _
   | exact LeO.none _
   | refine LeO.ite ?_ ?_
   | refine LeO.bind ?_ (fun _ => ?_)
theorem fuseelaw18_HostHolds.mono : ∀ a0 a1 a2 a3 a4 k, LeO (fuseelaw18_HostHolds.f k a0 a1 a2 a3 a4) (fuseelaw18_HostHolds.f (k + 1) a0 a1 a2 a3 a4) := by
 intro a0 a1 a2 a3 a4 k
 obtain ⟨ih0, ih1, ih2, ih3⟩ := fuseelaw18_HostHolds.mono_l k
 unfold fuseelaw18_HostHolds.f
 repeat' first
   | (with_reducible exact ih0 _ _ _ _ _ _ _ _ _ _ _ _ _ _ _ _ _)
   | (with_reducible exact ih1 _ _ _ _ _ _ _ _ _ _ _ _ _ _ _ _ _ _)
   | (with_reducible exact ih2 _ _ _ _ _ _ _ _ _ _ _ _ _ _ _ _ _ _ _)
   | (with_reducible exact ih3 _ _ _ _ _ _ _ _ _ _ _ _ _ _ _ _ _ _ _)
   | (with_reducible exact fuseelaw18_sure.mono _)
   | (with_reducible exact host_New.mono _ _ _ _ _ _ _ _)
   | (with_reducible exact host_Now.mono _ _ _ _ _ _ _ _ _ _ _ _ _ _ _)
   | (with_reducible exact host_Sync.mono _ _ _ _ _ _ _ _ _ _ _ _ _ _ _ _ _)
   | (with_reducible exact LeO.refl _)
   | (with_reducible exact LeO.none _)
   | (with_reducible refine LeO.ite ?_ ?_)
   | (with_reducible refine LeO.bind ?_ (fun _ => ?_))
   | exact ih0 _ _ _ _ _ _ _ _ _ _ _ _ _ _ _ _ _
   | exact ih1 _ _ _ _ _ _ _ _ _ _ _ _ _ _ _ _ _ _
   | exact ih2 _ _ _ _ _ _ _ _ _ _ _ _ _ _ _ _ _ _ _
   | exact ih3 _ _ _ _ _ _ _ _ _ _ _ _ _ _ _ _ _ _ _
   | exact fuseelaw18_sure.mono _
   | exact host_New.mono _ _ _ _ _ _ _ _
   | exact host_Now.mono _ _ _ _ _ _ _ _ _ _ _ _ _ _ _
   | exact host_Sync.mono _ _ _ _ _ _ _ _ _ _ _ _ _ _ _ _ _
   | exact LeO.none _
   | refine LeO.ite ?_ ?_
   | refine LeO.bind ?_ (fun _ => ?_)
def fuseelaw18_HostHolds.T2 : Bool × List (List Nat × List Nat) := (true, [([], []), ([0], [0]), ([1], [1]), ([2], [2]), ([], []), ([4], [4]), ([5], [5]), ([6], [6]), ([3, 7], [3, 7]), ([], []), ([9], [9]), ([10], [10]), ([11], [11]), ([0, 1, 2, 3, 4, 5, 6, 7, 8], []), ([13, 8, 0, 1, 2, 3, 4, 5, 6, 7, 8], [8, 13]), ([0, 1, 2, 3, 4, 5, 6, 7, 8, 9, 10, 11, 12, 13, 14], []), ([15, 12, 14, 0, 1, 2, 3, 4, 5, 6, 7, 8, 9, 10, 11, 12, 13, 14], [12, 15])])
def fuseelaw18_HostHolds.B2 : List Nat := [0, 1, 3, 7, 0, 16, 48, 112, 255, 0, 512, 1536, 3584, 511, 8703, 32767, 65535]
theorem fuseelaw18_HostHolds.tab2 : rtab .any (opsOf Tryd.f11 2) = fuseelaw18_HostHolds.T2 := by kernel_rfl
theorem fuseelaw18_HostHolds.bits2 : waitsOk fuseelaw18_HostHolds.T2.2 fuseelaw18_HostHolds.B2 = true := by kernel_rfl
def fuseelaw18_HostHolds.T11 : Bool × List (List Nat × List Nat) := (true, [([], []), ([], []), ([1], [1]), ([2], [2]), ([0, 3], [0, 3]), ([], []), ([], []), ([6], [6]), ([7], [7]), ([5, 8], [5, 8]), ([4, 0, 1, 2, 3, 4], [0, 4]), ([9, 10, 0, 1, 2, 3, 4, 5, 6, 7, 8, 9, 10], [5, 9])])
def fuseelaw18_HostHolds.B11 : List Nat := [0, 0, 2, 6, 15, 0, 0, 64, 192, 480, 31, 2047]
theorem fuseelaw18_HostHolds.tab11 : rtab .any (opsOf Tryd.f11 11) = fuseelaw18_HostHolds.T11 := by kernel_rfl
theorem fuseelaw18_HostHolds.bits11 : waitsOk fuseelaw18_HostHolds.T11.2 fuseelaw18_HostHolds.B11 = true := by kernel_rfl
set_option maxHeartbeats 8000000 in
set_option maxRecDepth 100000 in
theorem fuseelaw18_HostHolds.calls (k : Nat) (a0 : Int) (a1_0 : Int) (a1_1 : Int) (a1_2 : Int) (A2 : Option Addr) (c2 : Nat) (l2 : List (S151)) (r : Bool) (w : World) (hgL : HG w) (hr2 : Kd.C k151 w A2 l2.length l2) (hc2 : l2.length ≤ c2) (h : fuseelaw18_HostHolds.f k a0 a1_0 a1_1 a1_2 l2 = some r) :
  Calls Tryd.prog 11 #[.int .i64 a0, .agg #[.int .i16 a1_0, .int .i16 a1_1, .int .i16 a1_2], .slice A2 l2.length c2] w fun e w' => e = .returned (.bool r) ∧ Below w.heap.size w w' := by
 have hu144 := Tryd.underlying144
 have hu134 := Tryd.underlying134
 have hu132 := Tryd.underlying132
 have hu137 := Tryd.underlying137
 have hu151 := Tryd.underlying151
 have hu86 := Tryd.underlying86
 have hu31 := Tryd.underlying31
 have hu162 := Tryd.underlying162
 have HR2 := qS hr2
 have HC2 := qS hc2
 clear hr2 hc2
 have HB := qS (Below.refl w.heap.size w)
 have H : ((fuseelaw18_rule.f).bind fun bt415 => ((host_New.f k bt415.1 bt415.2.1 bt415.2.2.1 (Go.bits .and .i64 (wrap64 (a1_0)) 1023) (Go.bits .and .i64 (wrap64 (a1_1)) 1023) (Go.bits .and .i64 (wrap64 (a1_2)) 32767) bt415.2.2.2.2.2.2).bind fun bt423 => (if bt423.2.2.2.2.2.2.2.2.2.2.2.2.2.isNone = true then (if a0 < (-1152921504606846976) then (fuseelaw18_HostHolds.j0 k a0 l2 none true bt423.1 bt423.2.1 bt423.2.2.1 bt423.2.2.2.1 bt423.2.2.2.2.1 bt423.2.2.2.2.2.1 bt423.2.2.2.2.2.2.1 bt423.2.2.2.2.2.2.2.1 bt423.2.2.2.2.2.2.2.2.1 bt423.2.2.2.2.2.2.2.2.2.1 bt423.2.2.2.2.2.2.2.2.2.2.1 bt423.2.2.2.2.2.2.2.2.2.2.2.1 bt423.2.2.2.2.2.2.2.2.2.2.2.2.1) else (if a0 > 1152921504606846976 then (fuseelaw18_HostHolds.j0 k a0 l2 none true bt423.1 bt423.2.1 bt423.2.2.1 bt423.2.2.2.1 bt423.2.2.2.2.1 bt423.2.2.2.2.2.1 bt423.2.2.2.2.2.2.1 bt423.2.2.2.2.2.2.2.1 bt423.2.2.2.2.2.2.2.2.1 bt423.2.2.2.2.2.2.2.2.2.1 bt423.2.2.2.2.2.2.2.2.2.2.1 bt423.2.2.2.2.2.2.2.2.2.2.2.1 bt423.2.2.2.2.2.2.2.2.2.2.2.2.1) else (fuseelaw18_HostHolds.j0 k a0 l2 none (decide ((l2.length : Int) > 60)) bt423.1 bt423.2.1 bt423.2.2.1 bt423.2.2.2.1 bt423.2.2.2.2.1 bt423.2.2.2.2.2.1 bt423.2.2.2.2.2.2.1 bt423.2.2.2.2.2.2.2.1 bt423.2.2.2.2.2.2.2.2.1 bt423.2.2.2.2.2.2.2.2.2.1 bt423.2.2.2.2.2.2.2.2.2.2.1 bt423.2.2.2.2.2.2.2.2.2.2.2.1 bt423.2.2.2.2.2.2.2.2.2.2.2.2.1))) else (fuseelaw18_HostHolds.j0 k a0 l2 (some (bt423.2.2.2.2.2.2.2.2.2.2.2.2.2.getD 0)) true bt423.1 bt423.2.1 bt423.2.2.1 bt423.2.2.2.1 bt423.2.2.2.2.1 bt423.2.2.2.2.2.1 bt423.2.2.2.2.2.2.1 bt423.2.2.2.2.2.2.2.1 bt423.2.2.2.2.2.2.2.2.1 bt423.2.2.2.2.2.2.2.2.2.1 bt423.2.2.2.2.2.2.2.2.2.2.1 bt423.2.2.2.2.2.2.2.2.2.2.2.1 bt423.2.2.2.2.2.2.2.2.2.2.2.2.1)))) = some r := h
 clear h
 replace H := Option.bind_eq_some_iff.mp H
 obtain ⟨⟨t415, t416, t417, t418, t419, t420, t421⟩, A40, H⟩ := H
 replace H : ((host_New.f k t415 t416 t417 (Go.bits .and .i64 (wrap64 (a1_0)) 1023) (Go.bits .and .i64 (wrap64 (a1_1)) 1023) (Go.bits .and .i64 (wrap64 (a1_2)) 32767) t421).bind fun bt423 => (if bt423.2.2.2.2.2.2.2.2.2.2.2.2.2.isNone = true then (if a0 < (-1152921504606846976) then (fuseelaw18_HostHolds.j0 k a0 l2 none true bt423.1 bt423.2.1 bt423.2.2.1 bt423.2.2.2.1 bt423.2.2.2.2.1 bt423.2.2.2.2.2.1 bt423.2.2.2.2.2.2.1 bt423.2.2.2.2.2.2.2.1 bt423.2.2.2.2.2.2.2.2.1 bt423.2.2.2.2.2.2.2.2.2.1 bt423.2.2.2.2.2.2.2.2.2.2.1 bt423.2.2.2.2.2.2.2.2.2.2.2.1 bt423.2.2.2.2.2.2.2.2.2.2.2.2.1) else (if a0 > 1152921504606846976 then (fuseelaw18_HostHolds.j0 k a0 l2 none true bt423.1 bt423.2.1 bt423.2.2.1 bt423.2.2.2.1 bt423.2.2.2.2.1 bt423.2.2.2.2.2.1 bt423.2.2.2.2.2.2.1 bt423.2.2.2.2.2.2.2.1 bt423.2.2.2.2.2.2.2.2.1 bt423.2.2.2.2.2.2.2.2.2.1 bt423.2.2.2.2.2.2.2.2.2.2.1 bt423.2.2.2.2.2.2.2.2.2.2.2.1 bt423.2.2.2.2.2.2.2.2.2.2.2.2.1) else (fuseelaw18_HostHolds.j0 k a0 l2 none (decide ((l2.length : Int) > 60)) bt423.1 bt423.2.1 bt423.2.2.1 bt423.2.2.2.1 bt423.2.2.2.2.1 bt423.2.2.2.2.2.1 bt423.2.2.2.2.2.2.1 bt423.2.2.2.2.2.2.2.1 bt423.2.2.2.2.2.2.2.2.1 bt423.2.2.2.2.2.2.2.2.2.1 bt423.2.2.2.2.2.2.2.2.2.2.1 bt423.2.2.2.2.2.2.2.2.2.2.2.1 bt423.2.2.2.2.2.2.2.2.2.2.2.2.1))) else (fuseelaw18_HostHolds.j0 k a0 l2 (some (bt423.2.2.2.2.2.2.2.2.2.2.2.2.2.getD 0)) true bt423.1 bt423.2.1 bt423.2.2.1 bt423.2.2.2.1 bt423.2.2.2.2.1 bt423.2.2.2.2.2.1 bt423.2.2.2.2.2.2.1 bt423.2.2.2.2.2.2.2.1 bt423.2.2.2.2.2.2.2.2.1 bt423.2.2.2.2.2.2.2.2.2.1 bt423.2.2.2.2.2.2.2.2.2.2.1 bt423.2.2.2.2.2.2.2.2.2.2.2.1 bt423.2.2.2.2.2.2.2.2.2.2.2.2.1))) = some r := H
 have A4 := qS A40
 clear A40
 replace H := Option.bind_eq_some_iff.mp H
 obtain ⟨⟨t423, t424, t425, t426, t427, t428, t429, t430, t431, t432, t433, t434, t435, t436⟩, A50, H⟩ := H
 replace H : (if t436.isNone = true then (if a0 < (-1152921504606846976) then (fuseelaw18_HostHolds.j0 k a0 l2 none true t423 t424 t425 t426 t427 t428 t429 t430 t431 t432 t433 t434 t435) else (if a0 > 1152921504606846976 then (fuseelaw18_HostHolds.j0 k a0 l2 none true t423 t424 t425 t426 t427 t428 t429 t430 t431 t432 t433 t434 t435) else (fuseelaw18_HostHolds.j0 k a0 l2 none (decide ((l2.length : Int) > 60)) t423 t424 t425 t426 t427 t428 t429 t430 t431 t432 t433 t434 t435))) else (fuseelaw18_HostHolds.j0 k a0 l2 (some (t436.getD 0)) true t423 t424 t425 t426 t427 t428 t429 t430 t431 t432 t433 t434 t435)) = some r := H
 have A5 := qS A50
 clear A50
 have HC6 := qS H
 clear H
 go_enter Tryd.func11, Tryd.ntmps11
 try go_wp2_with (first | ((with_reducible refine gate_dst (N := 4) rfl ?_); (try (refine gate_guard (by rfl) ?_; dsimp only)); refine box_event ?hg (N := 4) ?hd (cs := #[.int .i16 a1_0, .int .i16 a1_1, .int .i16 a1_2]) (t := 144) ?hr ?_; (case hd => rfl); (case hg => rfl); (case hr => first | (go_simp; done) | (go_simp; rfl)); intro gb414 hg w7 hbox hb; have n0_ := qS (below_step (bW0 HB.out) hb); have n1_ := qS (hbox); have n2_ := qS ((by rw [hg]; exact (below_size (bW0 HB.out)) : w.heap.size ≤ gb414)); have n3_ := qS ((by rw [hg]; exact (below_size (bW0 HB.out)) : w.heap.size ≤ gb414)); clear HB; have HB := n0_; have BK414 := n1_; have GW414 := n2_; have GE414 := n3_; clear n0_ n1_ n2_ n3_; clear hb hbox hg) | ((with_reducible refine gate_callee (f := 57) rfl ?_); refine goesL_ (some 22) rfl rfl Tryd.func57 (by kernel_rfl) rfl #[] rfl (by (try simp only [List.map_toArray, List.map_cons, List.map_nil]); first | done | rfl | (simp only [*]; done) | (simp only [List.length_drop, List.length_take]; rfl) | (simp only [Act.eval, Array.getD_eq_getD_getElem?, Option.getD_some, *])) ?_; (with_reducible refine (fuseelaw18_rule.calls  t415 t416 t417 t418 t419 t420 t421 _ A4.out).mono ?_); rintro e w8 ⟨rfl, hb⟩; refine ⟨_, rfl, ?_⟩; have n0_ := qS (qB (g := gb414) (o := .cells #[.int .i16 a1_0, .int .i16 a1_1, .int .i16 a1_2] 144 (0, 0)) (qW BK414.out) hb); have n1_ := qS (below_step (bW1 HB.out GE414.out) hb); clear BK414; clear HB; have BK414 := n0_; have HB := n1_; clear n0_ n1_; (try clear hb); (try clear hb2); (try clear hk); (try clear hi)) | ((with_reducible refine gate_dst (N := 7) rfl ?_); (try (refine gate_guard (by rfl) ?_; dsimp only)); refine box_event ?hg (N := 7) ?hd (cs := #[.int .u32 0, .int .i64 0, .int .i64 0, .int .i64 0, .int .i64 0, .int .i64 0, .int .i64 0]) (t := 134) ?hr ?_; (case hd => rfl); (case hg => rfl); (case hr => first | (go_simp; done) | (go_simp; rfl)); intro gb422 hg w9 hbox hb; have n0_ := qS (qB (g := gb414) (o := .cells #[.int .i16 a1_0, .int .i16 a1_1, .int .i16 a1_2] 144 (0, 0)) (qW BK414.out) hb); have n1_ := qS (below_step (bW1 HB.out GE414.out) hb); have n2_ := qS (hbox); have n3_ := qS ((by rw [hg]; exact (below_size (bW1 HB.out GE414.out)) : w.heap.size ≤ gb422)); have n4_ := qS ((by rw [hg]; exact (below_size (bW1 HB.out GE414.out)) : w.heap.size ≤ gb422)); have n5_ := qS ((by rw [hg]; exact Nat.ne_of_lt (blk_lt (g := gb414) (o := .cells #[.int .i16 a1_0, .int .i16 a1_1, .int .i16 a1_2] 144 (0, 0)) (qW BK414.out)) : gb414 ≠ gb422)); have n6_ := qS ((by rw [hg]; exact Nat.ne_of_gt (blk_lt (g := gb414) (o := .cells #[.int .i16 a1_0, .int .i16 a1_1, .int .i16 a1_2] 144 (0, 0)) (qW BK414.out)) : gb422 ≠ gb414)); clear BK414; clear HB; have BK414 := n0_; have HB := n1_; have BK422 := n2_; have GW422 := n3_; have GE422 := n4_; have NB414_422 := n5_; have NB422_414 := n6_; clear n0_ n1_ n2_ n3_ n4_ n5_ n6_; clear hb hbox hg) | ((with_reducible refine gate_store (t := 134) (p := 7) rfl ?_); refine rowput_event rfl rfl rfl gb422 0 134 #[.int .u32 0, .int .i64 0, .int .i64 0, .int .i64 0, .int .i64 0, .int .i64 0, .int .i64 0] #[.int .u32 t415, .int .i64 t416, .int .i64 t417, .int .i64 t418, .int .i64 t419, .int .i64 t420, .int .i64 t421] _ [.int .u32 t415, .int .i64 t416, .int .i64 t417, .int .i64 t418, .int .i64 t419, .int .i64 t420, .int .i64 t421] rfl rfl rfl (qW BK422.out) (by kernel_rfl) (by simp) (by simp [Value.oneCell']) rfl (bW2 HB.out GE414.out GE422.out) GE422.out ?_; intro w10 hnw_ hfar_ hb_; have n0_ : Aside0 (w10.heap[gb414]? = some (.cells #[.int .i16 a1_0, .int .i16 a1_1, .int .i16 a1_2] 144 (0, 0))) := ⟨(hfar_ _ NB414_422.out).trans (qW BK414.out)⟩; have n1_ : Aside0 (w10.heap[gb422]? = some (.cells #[.int .u32 t415, .int .i64 t416, .int .i64 t417, .int .i64 t418, .int .i64 t419, .int .i64 t420, .int .i64 t421] 134 (0, 0))) := ⟨hnw_⟩; have nb_ := qS hb_; clear hnw_ hfar_ hb_ HB BK414 BK422; have BK414 := n0_; have BK422 := n1_; have HB := nb_; clear nb_ n0_ n1_))
 have n0_ := qS (qD BK414.out)
 have n1_ := qS (qD BK422.out)
 have n2_ := qS (qp1 HB.out)
 clear BK414
 clear BK422
 clear HB
 have BK414 := n0_
 have BK422 := n1_
 have HB := n2_
 clear n0_ n1_ n2_
 refine start_ (n := 17) (S := fun w' => w'.cell? ⟨gb414, 0, none⟩ = some (.int .i16 a1_0) ∧ w'.cell? ⟨gb414, 1, none⟩ = some (.int .i16 a1_1) ∧ w'.cell? ⟨gb414, 2, none⟩ = some (.int .i16 a1_2)) (ds := []) #[false, false, false, false, false, false, false, false, false, false, false, false, false, false, false, false, false] (by kernel_rfl) rfl rfl ⟨(qC BK414.out 0).trans rfl, (qC BK414.out 1).trans rfl, (qC BK414.out 2).trans rfl⟩ (fun hHeld => ?_); refine with_tabW fuseelaw18_HostHolds.tab2 fuseelaw18_HostHolds.bits2 (fun HT_ HW_ => ?_)
 generalize w10.drew = w11 at BK414 BK422 HB hHeld ⊢
 refine pure_ (i := 0) (N := some 23) (v := ?_) (a' := ?_) #[true, false, false, false, false, false, false, false, false, false, false, false, false, false, false, false, false] rfl rfl (any_of HT_.out (by kernel_rfl)) (fun _ _ _ h => h) (Or.inl ⟨by rfl, ?_⟩) ?_ ?_
 rotate_left
 ·intro w'
  go_simp
  with_reducible rfl
 rotate_left
 ·simp only [Act.put, List.setIfInBounds_toArray, List.set_cons_zero, List.set_cons_succ, i64_w, i32_w]
  rfl
 refine pure_ (i := 4) (N := some 27) (v := ?_) (a' := ?_) #[true, false, false, false, true, false, false, false, false, false, false, false, false, false, false, false, false] rfl rfl (any_of HT_.out (by kernel_rfl)) (fun _ _ _ h => h) (Or.inl ⟨by rfl, ?_⟩) ?_ ?_
 rotate_left
 ·intro w'
  go_simp
  with_reducible rfl
 rotate_left
 ·simp only [Act.put, List.setIfInBounds_toArray, List.set_cons_zero, List.set_cons_succ, i64_w, i32_w]
  rfl
 refine pure_ (i := 9) (N := some 32) (v := ?_) (a' := ?_) #[true, false, false, false, true, false, false, false, false, true, false, false, false, false, false, false, false] rfl rfl (any_of HT_.out (by kernel_rfl)) (fun _ _ _ h => h) (Or.inl ⟨by rfl, ?_⟩) ?_ ?_
 rotate_left
 ·intro w'
  go_simp
  with_reducible rfl
 rotate_left
 ·simp only [Act.put, List.setIfInBounds_toArray, List.set_cons_zero, List.set_cons_succ, i64_w, i32_w]
  rfl
 refine take_ (i := 1) (N := some 24) (v := ?_) (a' := ?_) #[true, true, false, false, true, false, false, false, false, true, false, false, false, false, false, false, false] rfl rfl (take_ofW HT_.out HW_.out (by kernel_rfl)) (fun _ _ _ h => h) (Or.inl ⟨by rfl, ?_⟩) hHeld ?_ ?_
 rotate_left
 ·rintro w' ⟨s0, s1, s2⟩
  go_simp
  with_reducible rfl
 rotate_left
 ·simp only [Act.put, List.setIfInBounds_toArray, List.set_cons_zero, List.set_cons_succ, i64_w, i32_w]
  rfl
 refine pure_ (i := 2) (N := some 25) (v := ?_) (a' := ?_) #[true, true, true, false, true, false, false, false, false, true, false, false, false, false, false, false, false] rfl rfl (any_of HT_.out (by kernel_rfl)) (fun _ _ _ h => h) (Or.inl ⟨by rfl, ?_⟩) ?_ ?_
 rotate_left
 ·intro w'
  go_simp
  with_reducible rfl
 rotate_left
 ·simp only [Act.put, List.setIfInBounds_toArray, List.set_cons_zero, List.set_cons_succ, i64_w, i32_w]
  rfl
 refine pure_ (i := 3) (N := some 26) (v := ?_) (a' := ?_) #[true, true, true, true, true, false, false, false, false, true, false, false, false, false, false, false, false] rfl rfl (any_of HT_.out (by kernel_rfl)) (fun _ _ _ h => h) (Or.inl ⟨by rfl, ?_⟩) ?_ ?_
 rotate_left
 ·intro w'
  go_simp
  with_reducible rfl
 rotate_left
 ·simp only [Act.put, List.setIfInBounds_toArray, List.set_cons_zero, List.set_cons_succ, i64_w, i32_w]
  rfl
 refine take_ (i := 5) (N := some 28) (v := ?_) (a' := ?_) #[true, true, true, true, true, true, false, false, false, true, false, false, false, false, false, false, false] rfl rfl (take_ofW HT_.out HW_.out (by kernel_rfl)) (fun _ _ _ h => h) (Or.inl ⟨by rfl, ?_⟩) hHeld ?_ ?_
 rotate_left
 ·rintro w' ⟨s0, s1, s2⟩
  go_simp
  with_reducible rfl
 rotate_left
 ·simp only [Act.put, List.setIfInBounds_toArray, List.set_cons_zero, List.set_cons_succ, i64_w, i32_w]
  rfl
 refine pure_ (i := 6) (N := some 29) (v := ?_) (a' := ?_) #[true, true, true, true, true, true, true, false, false, true, false, false, false, false, false, false, false] rfl rfl (any_of HT_.out (by kernel_rfl)) (fun _ _ _ h => h) (Or.inl ⟨by rfl, ?_⟩) ?_ ?_
 rotate_left
 ·intro w'
  go_simp
  with_reducible rfl
 rotate_left
 ·simp only [Act.put, List.setIfInBounds_toArray, List.set_cons_zero, List.set_cons_succ, i64_w, i32_w]
  rfl
 refine pure_ (i := 7) (N := some 30) (v := ?_) (a' := ?_) #[true, true, true, true, true, true, true, true, false, true, false, false, false, false, false, false, false] rfl rfl (any_of HT_.out (by kernel_rfl)) (fun _ _ _ h => h) (Or.inl ⟨by rfl, ?_⟩) ?_ ?_
 rotate_left
 ·intro w'
  go_simp
  with_reducible rfl
 rotate_left
 ·simp only [Act.put, List.setIfInBounds_toArray, List.set_cons_zero, List.set_cons_succ, i64_w, i32_w]
  rfl
 refine pure_ (i := 8) (N := some 31) (v := ?_) (a' := ?_) #[true, true, true, true, true, true, true, true, true, true, false, false, false, false, false, false, false] rfl rfl (any_of HT_.out (by kernel_rfl)) (fun _ _ _ h => h) (Or.inl ⟨by rfl, ?_⟩) ?_ ?_
 rotate_left
 ·intro w'
  go_simp
  with_reducible rfl
 rotate_left
 ·simp only [Act.put, List.setIfInBounds_toArray, List.set_cons_zero, List.set_cons_succ, i64_w, i32_w]
  rfl
 refine pure_ (i := 13) (N := some 36) (v := ?_) (a' := ?_) #[true, true, true, true, true, true, true, true, true, true, false, false, false, true, false, false, false] rfl rfl (any_of HT_.out (by kernel_rfl)) (fun _ _ _ h => h) (Or.inl ⟨by rfl, ?_⟩) ?_ ?_
 rotate_left
 ·intro w'
  go_simp
  with_reducible rfl
 rotate_left
 ·simp only [Act.put, List.setIfInBounds_toArray, List.set_cons_zero, List.set_cons_succ, i64_w, i32_w]
  rfl
 refine take_ (i := 10) (N := some 33) (v := ?_) (a' := ?_) #[true, true, true, true, true, true, true, true, true, true, true, false, false, true, false, false, false] rfl rfl (take_ofW HT_.out HW_.out (by kernel_rfl)) (fun _ _ _ h => h) (Or.inl ⟨by rfl, ?_⟩) hHeld ?_ ?_
 rotate_left
 ·rintro w' ⟨s0, s1, s2⟩
  go_simp
  with_reducible rfl
 rotate_left
 ·simp only [Act.put, List.setIfInBounds_toArray, List.set_cons_zero, List.set_cons_succ, i64_w, i32_w]
  rfl
 refine pure_ (i := 11) (N := some 34) (v := ?_) (a' := ?_) #[true, true, true, true, true, true, true, true, true, true, true, true, false, true, false, false, false] rfl rfl (any_of HT_.out (by kernel_rfl)) (fun _ _ _ h => h) (Or.inl ⟨by rfl, ?_⟩) ?_ ?_
 rotate_left
 ·intro w'
  go_simp
  with_reducible rfl
 rotate_left
 ·simp only [Act.put, List.setIfInBounds_toArray, List.set_cons_zero, List.set_cons_succ, i64_w, i32_w]
  rfl
 refine pure_ (i := 12) (N := some 35) (v := ?_) (a' := ?_) #[true, true, true, true, true, true, true, true, true, true, true, true, true, true, false, false, false] rfl rfl (any_of HT_.out (by kernel_rfl)) (fun _ _ _ h => h) (Or.inl ⟨by rfl, ?_⟩) ?_ ?_
 rotate_left
 ·intro w'
  go_simp
  with_reducible rfl
 rotate_left
 ·simp only [Act.put, List.setIfInBounds_toArray, List.set_cons_zero, List.set_cons_succ, i64_w, i32_w]
  rfl
 refine one_ (i := 14) (N := none) #[true, true, true, true, true, true, true, true, true, true, true, true, true, true, true, false, false] rfl rfl (one_of HT_.out (by kernel_rfl)) (by decide) (fun K hK => ?_)
 have hs12 : w11.cell? ⟨gb422, 3, none⟩ = some (.int .i64 t418) := (qC BK422.out 3).trans rfl
 have hfs12 := qF BK422.out 3
 have hns12_0 := NB414_422.out
 have hms12_0 := NB422_414.out
 have hs13 : w11.cell? ⟨gb422, 4, none⟩ = some (.int .i64 t419) := (qC BK422.out 4).trans rfl
 have hfs13 := qF BK422.out 4
 have hns13_0 := NB414_422.out
 have hms13_0 := NB422_414.out
 refine skip_ (w1 := ?_) (by rfl) rfl ?_ ?_
 rotate_left
 ·go_simp
  rfl
 refine hK.out _ _ ⟨((cell_far (p := ⟨gb422, _, none⟩) NB414_422.out _).trans (((cell_far (p := ⟨gb422, _, none⟩) NB414_422.out _).trans (hHeld.1)))), ((cell_far (p := ⟨gb422, _, none⟩) NB414_422.out _).trans (((cell_far (p := ⟨gb422, _, none⟩) NB414_422.out _).trans (hHeld.2.1)))), ((cell_far (p := ⟨gb422, _, none⟩) NB414_422.out _).trans (((cell_far (p := ⟨gb422, _, none⟩) NB414_422.out _).trans (hHeld.2.2))))⟩ (fun hHeld => ?_)
 clear hK K
 refine pure_ (i := 15) (N := some 37) (v := ?_) (a' := ?_) #[true, true, true, true, true, true, true, true, true, true, true, true, true, true, true, true, false] rfl rfl (any_of HT_.out (by kernel_rfl)) (fun _ _ _ h => h) (Or.inl ⟨by rfl, ?_⟩) ?_ ?_
 rotate_left
 ·intro w'
  go_simp
  with_reducible rfl
 rotate_left
 ·simp only [Act.put, List.setIfInBounds_toArray, List.set_cons_zero, List.set_cons_succ, i64_w, i32_w]
  rfl
 refine one_ (i := 16) (N := none) #[true, true, true, true, true, true, true, true, true, true, true, true, true, true, true, true, true] rfl rfl (one_of HT_.out (by kernel_rfl)) (by decide) (fun K hK => ?_)
 have hs14 : w11.cell? ⟨gb422, 5, none⟩ = some (.int .i64 t420) := (qC BK422.out 5).trans rfl
 have hfs14 := qF BK422.out 5
 have hns14_0 := NB414_422.out
 have hms14_0 := NB422_414.out
 refine skip_ (w1 := ?_) (by rfl) rfl ?_ ?_
 rotate_left
 ·go_simp
  rfl
 refine hK.out _ _ ⟨((cell_far (p := ⟨gb422, _, none⟩) NB414_422.out _).trans (hHeld.1)), ((cell_far (p := ⟨gb422, _, none⟩) NB414_422.out _).trans (hHeld.2.1)), ((cell_far (p := ⟨gb422, _, none⟩) NB414_422.out _).trans (hHeld.2.2))⟩ (fun hHeld => ?_)
 clear hK K
 refine done_ (done_of HT_.out (by kernel_rfl)) ?_
 have hnb15 := NB422_414.out
 have hnc15 := NB414_422.out
 have hcz16_0 : w11.cell? ⟨gb422, 0, none⟩ = some (.int .u32 t415) := (qC BK422.out 0).trans rfl
 have hcz16_1 : w11.cell? ⟨gb422, 1, none⟩ = some (.int .i64 t416) := (qC BK422.out 1).trans rfl
 have hcz16_2 : w11.cell? ⟨gb422, 2, none⟩ = some (.int .i64 t417) := (qC BK422.out 2).trans rfl
 have hcz16_3 : w11.cell? ⟨gb422, 3, none⟩ = some (.int .i64 t418) := (qC BK422.out 3).trans rfl
 have hcz16_4 : w11.cell? ⟨gb422, 4, none⟩ = some (.int .i64 t419) := (qC BK422.out 4).trans rfl
 have hcz16_5 : w11.cell? ⟨gb422, 5, none⟩ = some (.int .i64 t420) := (qC BK422.out 5).trans rfl
 have hcz16_6 : w11.cell? ⟨gb422, 6, none⟩ = some (.int .i64 t421) := (qC BK422.out 6).trans rfl
 have hfz16_0 := qF BK422.out 0
 have hfz16_1 := qF BK422.out 1
 have hfz16_2 := qF BK422.out 2
 have hfz16_3 := qF BK422.out 3
 have hfz16_4 := qF BK422.out 4
 have hfz16_5 := qF BK422.out 5
 have hfz16_6 := qF BK422.out 6
 go_upto_region 4 with (first | ((with_reducible refine gate_dst (N := 39) rfl ?_); (try (refine gate_guard (by rfl) ?_; dsimp only)); refine rowget_event rfl rfl gb422 0 134 #[.int .u32 t415, .int .i64 t416, .int .i64 t417, .int .i64 (Go.bits .and .i64 (wrap64 (a1_0)) 1023), .int .i64 (Go.bits .and .i64 (wrap64 (a1_1)) 1023), .int .i64 (Go.bits .and .i64 (wrap64 (a1_2)) 32767), .int .i64 t421] #[.int .u32 t415, .int .i64 t416, .int .i64 t417, .int .i64 (Go.bits .and .i64 (wrap64 (a1_0)) 1023), .int .i64 (Go.bits .and .i64 (wrap64 (a1_1)) 1023), .int .i64 (Go.bits .and .i64 (wrap64 (a1_2)) 32767), .int .i64 t421] _ rfl (by (with_reducible repeat (first | refine qN ?_ _ | refine qD ?_ | refine qA ?_ _)); refine blk_put (cs := #[.int .u32 t415, .int .i64 t416, .int .i64 t417, .int .i64 (Go.bits .and .i64 (wrap64 (a1_0)) 1023), .int .i64 (Go.bits .and .i64 (wrap64 (a1_1)) 1023), .int .i64 t420, .int .i64 t421]) ?_ 5 _ rfl; (with_reducible repeat (first | refine qN ?_ _ | refine qD ?_ | refine qA ?_ _)); refine blk_put (cs := #[.int .u32 t415, .int .i64 t416, .int .i64 t417, .int .i64 (Go.bits .and .i64 (wrap64 (a1_0)) 1023), .int .i64 t419, .int .i64 t420, .int .i64 t421]) ?_ 4 _ rfl; (with_reducible repeat (first | refine qN ?_ _ | refine qD ?_ | refine qA ?_ _)); refine blk_put (cs := #[.int .u32 t415, .int .i64 t416, .int .i64 t417, .int .i64 t418, .int .i64 t419, .int .i64 t420, .int .i64 t421]) ?_ 3 _ rfl; (with_reducible repeat (first | refine qN ?_ _ | refine qD ?_ | refine qA ?_ _)); exact BK422.out) rfl Tryd.underlying134 rfl (by kernel_rfl) ?_) | ((with_reducible refine gate_callee (f := 58) rfl ?_); refine goesL_ (some 40) rfl rfl Tryd.func58 (by kernel_rfl) rfl #[.agg #[.int .u32 t415, .int .i64 t416, .int .i64 t417, .int .i64 (Go.bits .and .i64 (wrap64 (a1_0)) 1023), .int .i64 (Go.bits .and .i64 (wrap64 (a1_1)) 1023), .int .i64 (Go.bits .and .i64 (wrap64 (a1_2)) 32767), .int .i64 t421]] rfl (by (try simp only [List.map_toArray, List.map_cons, List.map_nil]); first | done | rfl | (simp only [*]; done) | (simp only [List.length_drop, List.length_take]; rfl) | (simp only [Act.eval, Array.getD_eq_getD_getElem?, Option.getD_some, *])) ?_; (with_reducible refine (host_New.calls k t415 t416 t417 (Go.bits .and .i64 (wrap64 (a1_0)) 1023) (Go.bits .and .i64 (wrap64 (a1_1)) 1023) (Go.bits .and .i64 (wrap64 (a1_2)) 32767) t421 t423 t424 t425 t426 t427 t428 t429 t430 t431 t432 t433 t434 t435 t436 _ A5.out).mono ?_); rintro e w17 ⟨rfl, hb⟩; refine ⟨_, rfl, ?_⟩; have n0_ := qS (qB (g := gb414) (o := .cells #[.int .i16 a1_0, .int .i16 a1_1, .int .i16 a1_2] 144 (0, 0)) (by (with_reducible repeat (first | refine qN ?_ _ | refine qD ?_ | refine qA ?_ _)); refine blk_far ?_ NB414_422.out _; (with_reducible repeat (first | refine qN ?_ _ | refine qD ?_ | refine qA ?_ _)); refine blk_far ?_ NB414_422.out _; (with_reducible repeat (first | refine qN ?_ _ | refine qD ?_ | refine qA ?_ _)); refine blk_far ?_ NB414_422.out _; (with_reducible repeat (first | refine qN ?_ _ | refine qD ?_ | refine qA ?_ _)); exact BK414.out) hb); have n1_ := qS (qB (g := gb422) (o := .cells #[.int .u32 t415, .int .i64 t416, .int .i64 t417, .int .i64 (Go.bits .and .i64 (wrap64 (a1_0)) 1023), .int .i64 (Go.bits .and .i64 (wrap64 (a1_1)) 1023), .int .i64 (Go.bits .and .i64 (wrap64 (a1_2)) 32767), .int .i64 t421] 134 (0, 0)) (by (with_reducible repeat (first | refine qN ?_ _ | refine qD ?_ | refine qA ?_ _)); refine blk_put (cs := #[.int .u32 t415, .int .i64 t416, .int .i64 t417, .int .i64 (Go.bits .and .i64 (wrap64 (a1_0)) 1023), .int .i64 (Go.bits .and .i64 (wrap64 (a1_1)) 1023), .int .i64 t420, .int .i64 t421]) ?_ 5 _ rfl; (with_reducible repeat (first | refine qN ?_ _ | refine qD ?_ | refine qA ?_ _)); refine blk_put (cs := #[.int .u32 t415, .int .i64 t416, .int .i64 t417, .int .i64 (Go.bits .and .i64 (wrap64 (a1_0)) 1023), .int .i64 t419, .int .i64 t420, .int .i64 t421]) ?_ 4 _ rfl; (with_reducible repeat (first | refine qN ?_ _ | refine qD ?_ | refine qA ?_ _)); refine blk_put (cs := #[.int .u32 t415, .int .i64 t416, .int .i64 t417, .int .i64 t418, .int .i64 t419, .int .i64 t420, .int .i64 t421]) ?_ 3 _ rfl; (with_reducible repeat (first | refine qN ?_ _ | refine qD ?_ | refine qA ?_ _)); exact BK422.out) hb); have n2_ := qS (below_step (bW2 HB.out GE414.out GE422.out) hb); clear BK414; clear BK422; clear HB; have BK414 := n0_; have BK422 := n1_; have HB := n2_; clear n0_ n1_ n2_; (try clear hb); (try clear hb2); (try clear hk); (try clear hi); (try simp only [errW_none, errW_some])) | ((with_reducible refine gate_dst (N := 8) rfl ?_); (try (refine gate_guard (by rfl) ?_; dsimp only)); refine box_event ?hg (N := 8) ?hd (cs := #[.int .u32 0, .int .i64 0, .int .i64 0, .int .i64 0, .int .i64 0, .int .i64 0, .int .i64 0, .bool false, .int .i64 0, .int .i64 0, .int .i64 0, .int .i64 0, .int .i64 0]) (t := 137) ?hr ?_; (case hd => rfl); (case hg => rfl); (case hr => first | (go_simp; done) | (go_simp; rfl)); intro gb437 hg w18 hbox hb; have n0_ := qS (qB (g := gb414) (o := .cells #[.int .i16 a1_0, .int .i16 a1_1, .int .i16 a1_2] 144 (0, 0)) (qW BK414.out) hb); have n1_ := qS (qB (g := gb422) (o := .cells #[.int .u32 t415, .int .i64 t416, .int .i64 t417, .int .i64 (Go.bits .and .i64 (wrap64 (a1_0)) 1023), .int .i64 (Go.bits .and .i64 (wrap64 (a1_1)) 1023), .int .i64 (Go.bits .and .i64 (wrap64 (a1_2)) 32767), .int .i64 t421] 134 (0, 0)) (qW BK422.out) hb); have n2_ := qS (below_step (bW2 HB.out GE414.out GE422.out) hb); have n3_ := qS (hbox); have n4_ := qS ((by rw [hg]; exact (below_size (bW2 HB.out GE414.out GE422.out)) : w.heap.size ≤ gb437)); have n5_ := qS ((by rw [hg]; exact (below_size (bW2 HB.out GE414.out GE422.out)) : w.heap.size ≤ gb437)); have n6_ := qS ((by rw [hg]; exact Nat.ne_of_lt (blk_lt (g := gb414) (o := .cells #[.int .i16 a1_0, .int .i16 a1_1, .int .i16 a1_2] 144 (0, 0)) (qW BK414.out)) : gb414 ≠ gb437)); have n7_ := qS ((by rw [hg]; exact Nat.ne_of_gt (blk_lt (g := gb414) (o := .cells #[.int .i16 a1_0, .int .i16 a1_1, .int .i16 a1_2] 144 (0, 0)) (qW BK414.out)) : gb437 ≠ gb414)); have n8_ := qS ((by rw [hg]; exact Nat.ne_of_lt (blk_lt (g := gb422) (o := .cells #[.int .u32 t415, .int .i64 t416, .int .i64 t417, .int .i64 (Go.bits .and .i64 (wrap64 (a1_0)) 1023), .int .i64 (Go.bits .and .i64 (wrap64 (a1_1)) 1023), .int .i64 (Go.bits .and .i64 (wrap64 (a1_2)) 32767), .int .i64 t421] 134 (0, 0)) (qW BK422.out)) : gb422 ≠ gb437)); have n9_ := qS ((by rw [hg]; exact Nat.ne_of_gt (blk_lt (g := gb422) (o := .cells #[.int .u32 t415, .int .i64 t416, .int .i64 t417, .int .i64 (Go.bits .and .i64 (wrap64 (a1_0)) 1023), .int .i64 (Go.bits .and .i64 (wrap64 (a1_1)) 1023), .int .i64 (Go.bits .and .i64 (wrap64 (a1_2)) 32767), .int .i64 t421] 134 (0, 0)) (qW BK422.out)) : gb437 ≠ gb422)); clear BK414; clear BK422; clear HB; have BK414 := n0_; have BK422 := n1_; have HB := n2_; have BK437 := n3_; have GW437 := n4_; have GE437 := n5_; have NB414_437 := n6_; have NB437_414 := n7_; have NB422_437 := n8_; have NB437_422 := n9_; clear n0_ n1_ n2_ n3_ n4_ n5_ n6_ n7_ n8_ n9_; clear hb hbox hg) | ((with_reducible refine gate_store (t := 137) (p := 8) rfl ?_); refine rowput_event rfl rfl rfl gb437 0 137 #[.int .u32 0, .int .i64 0, .int .i64 0, .int .i64 0, .int .i64 0, .int .i64 0, .int .i64 0, .bool false, .int .i64 0, .int .i64 0, .int .i64 0, .int .i64 0, .int .i64 0] #[.int .u32 t423, .int .i64 t424, .int .i64 t425, .int .i64 t426, .int .i64 t427, .int .i64 t428, .int .i64 t429, .bool t430, .int .i64 t431, .int .i64 t432, .int .i64 t433, .int .i64 t434, .int .i64 t435] _ [.int .u32 t423, .int .i64 t424, .int .i64 t425, .int .i64 t426, .int .i64 t427, .int .i64 t428, .int .i64 t429, .bool t430, .int .i64 t431, .int .i64 t432, .int .i64 t433, .int .i64 t434, .int .i64 t435] rfl rfl rfl (qW BK437.out) (by kernel_rfl) (by simp) (by simp [Value.oneCell']) rfl (bW3 HB.out GE414.out GE422.out GE437.out) GE437.out ?_; intro w19 hnw_ hfar_ hb_; have n0_ : Aside0 (w19.heap[gb414]? = some (.cells #[.int .i16 a1_0, .int .i16 a1_1, .int .i16 a1_2] 144 (0, 0))) := ⟨(hfar_ _ NB414_437.out).trans (qW BK414.out)⟩; have n1_ : Aside0 (w19.heap[gb422]? = some (.cells #[.int .u32 t415, .int .i64 t416, .int .i64 t417, .int .i64 (Go.bits .and .i64 (wrap64 (a1_0)) 1023), .int .i64 (Go.bits .and .i64 (wrap64 (a1_1)) 1023), .int .i64 (Go.bits .and .i64 (wrap64 (a1_2)) 32767), .int .i64 t421] 134 (0, 0))) := ⟨(hfar_ _ NB422_437.out).trans (qW BK422.out)⟩; have n2_ : Aside0 (w19.heap[gb437]? = some (.cells #[.int .u32 t423, .int .i64 t424, .int .i64 t425, .int .i64 t426, .int .i64 t427, .int .i64 t428, .int .i64 t429, .bool t430, .int .i64 t431, .int .i64 t432, .int .i64 t433, .int .i64 t434, .int .i64 t435] 137 (0, 0))) := ⟨hnw_⟩; have nb_ := qS hb_; clear hnw_ hfar_ hb_ HB BK414 BK422 BK437; have BK414 := n0_; have BK422 := n1_; have BK437 := n2_; have HB := nb_; clear nb_ n0_ n1_ n2_))
 (try simp only [Act.put, List.setIfInBounds_toArray, List.set_cons_zero, List.set_cons_succ])
 go_cut [57] (fun v57 wc => ∃ (kq : Nat) (x57_5 : Bool), v57 = .bool x57_5 ∧ Aside0 (fuseelaw18_HostHolds.j0 kq a0 l2 t436 x57_5 t423 t424 t425 t426 t427 t428 t429 t430 t431 t432 t433 t434 t435 = some r) ∧ Aside0 (kq ≤ k) ∧ Aside0 (wc.heap[gb414]? = some (.cells #[.int .i16 a1_0, .int .i16 a1_1, .int .i16 a1_2] 144 (0, 0))) ∧ Aside0 (wc.heap[gb422]? = some (.cells #[.int .u32 t415, .int .i64 t416, .int .i64 t417, .int .i64 (Go.bits .and .i64 (wrap64 (a1_0)) 1023), .int .i64 (Go.bits .and .i64 (wrap64 (a1_1)) 1023), .int .i64 (Go.bits .and .i64 (wrap64 (a1_2)) 32767), .int .i64 t421] 134 (0, 0))) ∧ Aside0 (wc.heap[gb437]? = some (.cells #[.int .u32 t423, .int .i64 t424, .int .i64 t425, .int .i64 t426, .int .i64 t427, .int .i64 t428, .int .i64 t429, .bool t430, .int .i64 t431, .int .i64 t432, .int .i64 t433, .int .i64 t434, .int .i64 t435] 137 (0, 0))) ∧ Aside0 (Below w.heap.size w wc))
 case first =>
  have H := HC6.out
  clear HC6
  rcases t436 with _ | q438
  ·have H1 : (if a0 < (-1152921504606846976) then (fuseelaw18_HostHolds.j0 k a0 l2 none true t423 t424 t425 t426 t427 t428 t429 t430 t431 t432 t433 t434 t435) else (if a0 > 1152921504606846976 then (fuseelaw18_HostHolds.j0 k a0 l2 none true t423 t424 t425 t426 t427 t428 t429 t430 t431 t432 t433 t434 t435) else (fuseelaw18_HostHolds.j0 k a0 l2 none (decide ((l2.length : Int) > 60)) t423 t424 t425 t426 t427 t428 t429 t430 t431 t432 t433 t434 t435))) = some r := by rw [if_pos (show (none : Option Int).isNone = true by rfl)] at H; exact H
   clear H
   have H := H1
   clear H1
   try simp only [errW_none, errW_some]
   by_cases c20 : a0 < (-1152921504606846976)
   ·rw [if_pos c20] at H
    have c20b0 : decide (a0 < (-1152921504606846976)) = true := decide_eq_true c20
    clear c20
    (first | rw [c20b0] | (simp only [i64_w, i32_w]; rw [c20b0]) | skip)
    as_aux_lemma =>
     have H' := qS H
     clear H
     go_wp2
     go_meet
     case rel => exact ⟨_, (true), (by first | rfl | (simp; done) | (simp [*]; done)), H', ⟨by first | omega | exact Nat.le_refl _⟩, ⟨by (with_reducible repeat (first | refine qN ?_ _ | refine qD ?_ | refine qA ?_ _)); exact BK414.out⟩, ⟨by (with_reducible repeat (first | refine qN ?_ _ | refine qD ?_ | refine qA ?_ _)); exact BK422.out⟩, ⟨by (with_reducible repeat (first | refine qN ?_ _ | refine qD ?_ | refine qA ?_ _)); exact BK437.out⟩, ⟨by repeat (first | (with_reducible first | exact HB.out | apply qpA | apply qpN | apply qp1 | refine qpS ?_ GE414.out | refine qpS ?_ GE422.out | refine qpS ?_ GE437.out) | exact HB.out)⟩⟩
   ·rw [if_neg c20] at H
    have c20b0 : decide (a0 < (-1152921504606846976)) = false := decide_eq_false c20
    clear c20
    (first | rw [c20b0] | (simp only [i64_w, i32_w]; rw [c20b0]) | skip)
    by_cases c21 : a0 > 1152921504606846976
    ·rw [if_pos c21] at H
     have c21b0 : decide (1152921504606846976 < a0) = true := decide_eq_true c21
     clear c21
     as_aux_lemma =>
      have H' := qS H
      clear H
      go_wp2
      go_meet
      case rel => exact ⟨_, (true), (by first | rfl | (simp; done) | (simp [*]; done)), H', ⟨by first | omega | exact Nat.le_refl _⟩, ⟨by (with_reducible repeat (first | refine qN ?_ _ | refine qD ?_ | refine qA ?_ _)); exact BK414.out⟩, ⟨by (with_reducible repeat (first | refine qN ?_ _ | refine qD ?_ | refine qA ?_ _)); exact BK422.out⟩, ⟨by (with_reducible repeat (first | refine qN ?_ _ | refine qD ?_ | refine qA ?_ _)); exact BK437.out⟩, ⟨by repeat (first | (with_reducible first | exact HB.out | apply qpA | apply qpN | apply qp1 | refine qpS ?_ GE414.out | refine qpS ?_ GE422.out | refine qpS ?_ GE437.out) | exact HB.out)⟩⟩
    ·rw [if_neg c21] at H
     have c21b0 : decide (1152921504606846976 < a0) = false := decide_eq_false c21
     clear c21
     as_aux_lemma =>
      have H' := qS H
      clear H
      go_wp2
      go_meet
      case rel => exact ⟨_, (decide ((l2.length : Int) > 60)), (by first | rfl | (simp; done) | (simp [*]; done)), H', ⟨by first | omega | exact Nat.le_refl _⟩, ⟨by (with_reducible repeat (first | refine qN ?_ _ | refine qD ?_ | refine qA ?_ _)); exact BK414.out⟩, ⟨by (with_reducible repeat (first | refine qN ?_ _ | refine qD ?_ | refine qA ?_ _)); exact BK422.out⟩, ⟨by (with_reducible repeat (first | refine qN ?_ _ | refine qD ?_ | refine qA ?_ _)); exact BK437.out⟩, ⟨by repeat (first | (with_reducible first | exact HB.out | apply qpA | apply qpN | apply qp1 | refine qpS ?_ GE414.out | refine qpS ?_ GE422.out | refine qpS ?_ GE437.out) | exact HB.out)⟩⟩
  ·have H1 : (fuseelaw18_HostHolds.j0 k a0 l2 (some q438) true t423 t424 t425 t426 t427 t428 t429 t430 t431 t432 t433 t434 t435) = some r := by rw [if_neg (show ¬ (some q438).isNone = true by simp)] at H; exact H
   clear H
   have H := H1
   clear H1
   try simp only [errW_none, errW_some]
   as_aux_lemma =>
    have H' := qS H
    clear H
    go_wp2
    go_meet
    case rel => exact ⟨_, (true), (by first | rfl | (simp; done) | (simp [*]; done)), H', ⟨by first | omega | exact Nat.le_refl _⟩, ⟨by (with_reducible repeat (first | refine qN ?_ _ | refine qD ?_ | refine qA ?_ _)); exact BK414.out⟩, ⟨by (with_reducible repeat (first | refine qN ?_ _ | refine qD ?_ | refine qA ?_ _)); exact BK422.out⟩, ⟨by (with_reducible repeat (first | refine qN ?_ _ | refine qD ?_ | refine qA ?_ _)); exact BK437.out⟩, ⟨by repeat (first | (with_reducible first | exact HB.out | apply qpA | apply qpN | apply qp1 | refine qpS ?_ GE414.out | refine qpS ?_ GE422.out | refine qpS ?_ GE437.out) | exact HB.out)⟩⟩
 case rest =>
  clear HC6
  try clear c1
  try clear c2
  try clear p2
  try clear q4
  try clear c5
  try clear p6
  try clear c11
  try clear c15
  try clear c20
  try clear c20b0
  try clear c21
  try clear c21b0
  try clear hcz16_0
  try clear hcz16_1
  try clear hcz16_2
  try clear hcz16_3
  try clear hcz16_4
  try clear hcz16_5
  try clear hcz16_6
  try clear hfz16_0
  try clear hfz16_1
  try clear hfz16_2
  try clear hfz16_3
  try clear hfz16_4
  try clear hfz16_5
  try clear hfz16_6
  try clear q438
  obtain ⟨kq, x57_5, rfl, HA, HJ5, BK414, BK422, BK437, HB⟩ := hcut
  cases kq with
  | zero => exact absurd HA.out (by simp [fuseelaw18_HostHolds.j0])
  | succ kj5 =>
   have H := HA.out
   clear HA
   simp only [fuseelaw18_HostHolds.j0] at H
   by_cases c22 : x57_5 = true
   ·subst c22
    have H1 : (if t436.isNone = true then ((fuseelaw18_sure.f kj5).bind fun t440 => (some t440)) else (none)) = some r := by rw [if_pos rfl] at H; exact H
    clear H
    have H := H1
    clear H1
    rcases t436 with _ | q439
    ·have H1 : ((fuseelaw18_sure.f kj5).bind fun t440 => (some t440)) = some r := by rw [if_pos (show (none : Option Int).isNone = true by rfl)] at H; exact H
     clear H
     have H := H1
     clear H1
     try simp only [errW_none, errW_some]
     replace H := Option.bind_eq_some_iff.mp H
     obtain ⟨t440, A230, H⟩ := H
     replace H : (some t440) = some r := H
     have A23 := qS A230
     clear A230
     as_aux_lemma =>
      obtain rfl := Option.some.inj H
      go_wp2_with (first | (go_at_call 59; (with_reducible refine (fuseelaw18_sure.calls kj5  t440 _ ?side1 A23.out).mono ?_); (case side1 => exact HG.below hgL (Nat.le_refl _) (bW3 HB.out GE414.out GE422.out GE437.out)); rintro e w24 ⟨rfl, hb⟩; have n0_ := qS (qB (g := gb414) (o := .cells #[.int .i16 a1_0, .int .i16 a1_1, .int .i16 a1_2] 144 (0, 0)) (qW BK414.out) hb); have n1_ := qS (qB (g := gb422) (o := .cells #[.int .u32 t415, .int .i64 t416, .int .i64 t417, .int .i64 (Go.bits .and .i64 (wrap64 (a1_0)) 1023), .int .i64 (Go.bits .and .i64 (wrap64 (a1_1)) 1023), .int .i64 (Go.bits .and .i64 (wrap64 (a1_2)) 32767), .int .i64 t421] 134 (0, 0)) (qW BK422.out) hb); have n2_ := qS (qB (g := gb437) (o := .cells #[.int .u32 t423, .int .i64 t424, .int .i64 t425, .int .i64 t426, .int .i64 t427, .int .i64 t428, .int .i64 t429, .bool t430, .int .i64 t431, .int .i64 t432, .int .i64 t433, .int .i64 t434, .int .i64 t435] 137 (0, 0)) (qW BK437.out) hb); have n3_ := qS (below_step (bW3 HB.out GE414.out GE422.out GE437.out) hb); clear BK414; clear BK422; clear BK437; clear HB; have BK414 := n0_; have BK422 := n1_; have BK437 := n2_; have HB := n3_; clear n0_ n1_ n2_ n3_; (try clear hb); (try clear hb2); (try clear hk); (try clear hi)))
      go_ret
      exact ⟨by first | rfl | (simp [errW_none, errW_some] <;> rfl) | (simp [*, errW_none, errW_some] <;> rfl), by repeat (first | (with_reducible first | exact HB.out | apply qpA | apply qpN | apply qp1 | refine qpS ?_ GE414.out | refine qpS ?_ GE422.out | refine qpS ?_ GE437.out) | exact HB.out)⟩
    ·have H1 : (none) = some r := by rw [if_neg (show ¬ (some q439).isNone = true by simp)] at H; exact H
     clear H
     have H := H1
     clear H1
     try simp only [errW_none, errW_some]
     exact absurd H (by simp)
   ·replace c22 := Bool.eq_false_iff.mpr c22
    subst c22
    have H1 : (fuseelaw18_HostHolds.l0 kj5 l2 0 0 a0 0 t423 t424 t425 t426 t427 t428 t429 t430 t431 t432 t433 t434 t435) = some r := by rw [if_neg (show ¬ (false = true) by decide)] at H; exact H
    clear H
    have H := H1
    clear H1
    have H' := qS H
    clear H
    go_wp2
    go_loopg [10, 11, 12, 13] kj5 (fun kq v10 v11 v12 v13 w' => ∃ (x10_2 : Int) (x11_2 : Int) (x12_2 : Int) (x13_2 : Int) (x438000_2 : Int) (x438001_2 : Int) (x438002_2 : Int) (x438003_2 : Int) (x438004_2 : Int) (x438005_2 : Int) (x438006_2 : Int) (x438007_2 : Bool) (x438008_2 : Int) (x438009_2 : Int) (x438010_2 : Int) (x438011_2 : Int) (x438012_2 : Int), v10 = .int .i64 x10_2 ∧ v11 = .int .i64 x11_2 ∧ v12 = .int .i64 x12_2 ∧ v13 = .int .i64 x13_2 ∧ Aside0 (fuseelaw18_HostHolds.l0 kq l2 x10_2 x11_2 x12_2 x13_2 x438000_2 x438001_2 x438002_2 x438003_2 x438004_2 x438005_2 x438006_2 x438007_2 x438008_2 x438009_2 x438010_2 x438011_2 x438012_2 = some r) ∧ Aside0 (kq ≤ kj5) ∧ Aside0 (w'.heap[gb414]? = some (.cells #[.int .i16 a1_0, .int .i16 a1_1, .int .i16 a1_2] 144 (0, 0))) ∧ Aside0 (w'.heap[gb422]? = some (.cells #[.int .u32 t415, .int .i64 t416, .int .i64 t417, .int .i64 (Go.bits .and .i64 (wrap64 (a1_0)) 1023), .int .i64 (Go.bits .and .i64 (wrap64 (a1_1)) 1023), .int .i64 (Go.bits .and .i64 (wrap64 (a1_2)) 32767), .int .i64 t421] 134 (0, 0))) ∧ Aside0 (w'.heap[gb437]? = some (.cells #[.int .u32 x438000_2, .int .i64 x438001_2, .int .i64 x438002_2, .int .i64 x438003_2, .int .i64 x438004_2, .int .i64 x438005_2, .int .i64 x438006_2, .bool x438007_2, .int .i64 x438008_2, .int .i64 x438009_2, .int .i64 x438010_2, .int .i64 x438011_2, .int .i64 x438012_2] 137 (0, 0))) ∧ Aside0 (Below w.heap.size w w'))
    case atStart => exact ⟨(0), (0), (a0), (0), (t423), (t424), (t425), (t426), (t427), (t428), (t429), (t430), (t431), (t432), (t433), (t434), (t435), (by first | rfl | (simp; done) | (simp [*]; done)), (by first | rfl | (simp; done) | (simp [*]; done)), (by first | rfl | (simp; done) | (simp [*]; done)), (by first | rfl | (simp; done) | (simp [*]; done)), H', ⟨Nat.le_refl _⟩, ⟨by (with_reducible repeat (first | refine qN ?_ _ | refine qD ?_ | refine qA ?_ _)); exact BK414.out⟩, ⟨by (with_reducible repeat (first | refine qN ?_ _ | refine qD ?_ | refine qA ?_ _)); exact BK422.out⟩, ⟨by (with_reducible repeat (first | refine qN ?_ _ | refine qD ?_ | refine qA ?_ _)); exact BK437.out⟩, ⟨by repeat (first | (with_reducible first | exact HB.out | apply qpA | apply qpN | apply qp1 | refine qpS ?_ GE414.out | refine qpS ?_ GE422.out | refine qpS ?_ GE437.out) | exact HB.out)⟩⟩
    case round =>
     clear H'
     try clear c1
     try clear c2
     try clear p2
     try clear q4
     try clear c5
     try clear p6
     try clear c11
     try clear c15
     try clear c20
     try clear c20b0
     try clear c21
     try clear c21b0
     try clear c22
     try clear hcz16_0
     try clear hcz16_1
     try clear hcz16_2
     try clear hcz16_3
     try clear hcz16_4
     try clear hcz16_5
     try clear hcz16_6
     try clear hfz16_0
     try clear hfz16_1
     try clear hfz16_2
     try clear hfz16_3
     try clear hfz16_4
     try clear hfz16_5
     try clear hfz16_6
     try clear p2
     try clear p6
     try clear q4
     try clear q438
     try clear q439
     obtain ⟨x10_2, x11_2, x12_2, x13_2, x438000_2, x438001_2, x438002_2, x438003_2, x438004_2, x438005_2, x438006_2, x438007_2, x438008_2, x438009_2, x438010_2, x438011_2, x438012_2, rfl, rfl, rfl, rfl, HA, HK2, BK414, BK422, BK437, HB⟩ := hrel
     cases gk with
     | zero => exact absurd HA.out (by simp [fuseelaw18_HostHolds.l0])
     | succ k2 =>
      have H := HA.out
      clear HA
      simp only [fuseelaw18_HostHolds.l0] at H
      by_cases c25 : x13_2 < (l2.length : Int)
      ·rw [if_pos c25] at H
       have c25b0 : decide (x13_2 < (l2.length : Int)) = true := decide_eq_true c25
       clear c25
       by_cases c26 : 0 ≤ x13_2
       ·rw [if_pos c26] at H
        have c26b0 : decide (0 ≤ x13_2) = true := decide_eq_true c26
        clear c26
        have HC27 := qS H
        clear H
        have p442 : 0 ≤ (x13_2 : Int) := of_decide_eq_true (by first | (with_reducible assumption) | assumption)
        have q442 : x13_2 < (l2.length : Int) := of_decide_eq_true (by first | (with_reducible assumption) | assumption)
        obtain ⟨ad442, e442, hx442_0, hx442_1, hx442_2, hx442_3, hx442_4⟩ := at_T151 HR2.out x13_2 p442 q442
        cases e442
        replace hx442_0 := (HB.out.cell (World.block_lt_of_cell? w _ hx442_0)).trans hx442_0
        replace hx442_1 := (HB.out.cell (World.block_lt_of_cell? w _ hx442_1)).trans hx442_1
        replace hx442_2 := (HB.out.cell (World.block_lt_of_cell? w _ hx442_2)).trans hx442_2
        replace hx442_3 := (HB.out.cell (World.block_lt_of_cell? w _ hx442_3)).trans hx442_3
        replace hx442_4 := (HB.out.cell (World.block_lt_of_cell? w _ hx442_4)).trans hx442_4
        replace p442 := eq_true p442
        replace q442 := eq_true q442
        try go_wp2_with (first | ((with_reducible refine gate_dst (N := 14) rfl ?_); (try (refine gate_guard (by rfl) ?_; dsimp only)); refine box_event ?hg (N := 14) ?hd (cs := #[.int .u32 0, .int .i16 0, .bool false, .int .u16 0, .int .u16 0]) (t := 151) ?hr ?_; (case hd => rfl); (case hg => rfl); (case hr => first | (go_simp; done) | (go_simp; rfl)); intro gb443 hg w28 hbox hb; have n0_ := qS (qB (g := gb414) (o := .cells #[.int .i16 a1_0, .int .i16 a1_1, .int .i16 a1_2] 144 (0, 0)) (qW BK414.out) hb); have n1_ := qS (qB (g := gb422) (o := .cells #[.int .u32 t415, .int .i64 t416, .int .i64 t417, .int .i64 (Go.bits .and .i64 (wrap64 (a1_0)) 1023), .int .i64 (Go.bits .and .i64 (wrap64 (a1_1)) 1023), .int .i64 (Go.bits .and .i64 (wrap64 (a1_2)) 32767), .int .i64 t421] 134 (0, 0)) (qW BK422.out) hb); have n2_ := qS (qB (g := gb437) (o := .cells #[.int .u32 x438000_2, .int .i64 x438001_2, .int .i64 x438002_2, .int .i64 x438003_2, .int .i64 x438004_2, .int .i64 x438005_2, .int .i64 x438006_2, .bool x438007_2, .int .i64 x438008_2, .int .i64 x438009_2, .int .i64 x438010_2, .int .i64 x438011_2, .int .i64 x438012_2] 137 (0, 0)) (qW BK437.out) hb); have n3_ := qS (below_step (bW3 HB.out GE414.out GE422.out GE437.out) hb); have n4_ := qS (hbox); have n5_ := qS ((by rw [hg]; exact (below_size (bW3 HB.out GE414.out GE422.out GE437.out)) : w.heap.size ≤ gb443)); have n6_ := qS ((by rw [hg]; exact (below_size (bW3 HB.out GE414.out GE422.out GE437.out)) : w.heap.size ≤ gb443)); have n7_ := qS ((by rw [hg]; exact Nat.ne_of_lt (blk_lt (g := gb414) (o := .cells #[.int .i16 a1_0, .int .i16 a1_1, .int .i16 a1_2] 144 (0, 0)) (qW BK414.out)) : gb414 ≠ gb443)); have n8_ := qS ((by rw [hg]; exact Nat.ne_of_gt (blk_lt (g := gb414) (o := .cells #[.int .i16 a1_0, .int .i16 a1_1, .int .i16 a1_2] 144 (0, 0)) (qW BK414.out)) : gb443 ≠ gb414)); have n9_ := qS ((by rw [hg]; exact Nat.ne_of_lt (blk_lt (g := gb422) (o := .cells #[.int .u32 t415, .int .i64 t416, .int .i64 t417, .int .i64 (Go.bits .and .i64 (wrap64 (a1_0)) 1023), .int .i64 (Go.bits .and .i64 (wrap64 (a1_1)) 1023), .int .i64 (Go.bits .and .i64 (wrap64 (a1_2)) 32767), .int .i64 t421] 134 (0, 0)) (qW BK422.out)) : gb422 ≠ gb443)); have n10_ := qS ((by rw [hg]; exact Nat.ne_of_gt (blk_lt (g := gb422) (o := .cells #[.int .u32 t415, .int .i64 t416, .int .i64 t417, .int .i64 (Go.bits .and .i64 (wrap64 (a1_0)) 1023), .int .i64 (Go.bits .and .i64 (wrap64 (a1_1)) 1023), .int .i64 (Go.bits .and .i64 (wrap64 (a1_2)) 32767), .int .i64 t421] 134 (0, 0)) (qW BK422.out)) : gb443 ≠ gb422)); have n11_ := qS ((by rw [hg]; exact Nat.ne_of_lt (blk_lt (g := gb437) (o := .cells #[.int .u32 x438000_2, .int .i64 x438001_2, .int .i64 x438002_2, .int .i64 x438003_2, .int .i64 x438004_2, .int .i64 x438005_2, .int .i64 x438006_2, .bool x438007_2, .int .i64 x438008_2, .int .i64 x438009_2, .int .i64 x438010_2, .int .i64 x438011_2, .int .i64 x438012_2] 137 (0, 0)) (qW BK437.out)) : gb437 ≠ gb443)); have n12_ := qS ((by rw [hg]; exact Nat.ne_of_gt (blk_lt (g := gb437) (o := .cells #[.int .u32 x438000_2, .int .i64 x438001_2, .int .i64 x438002_2, .int .i64 x438003_2, .int .i64 x438004_2, .int .i64 x438005_2, .int .i64 x438006_2, .bool x438007_2, .int .i64 x438008_2, .int .i64 x438009_2, .int .i64 x438010_2, .int .i64 x438011_2, .int .i64 x438012_2] 137 (0, 0)) (qW BK437.out)) : gb443 ≠ gb437)); clear BK414; clear BK422; clear BK437; clear HB; have BK414 := n0_; have BK422 := n1_; have BK437 := n2_; have HB := n3_; have BK443 := n4_; have GW443 := n5_; have GE443 := n6_; have NB414_443 := n7_; have NB443_414 := n8_; have NB422_443 := n9_; have NB443_422 := n10_; have NB437_443 := n11_; have NB443_437 := n12_; clear n0_ n1_ n2_ n3_ n4_ n5_ n6_ n7_ n8_ n9_ n10_ n11_ n12_; clear hb hbox hg; have hnb29 := NB443_414.out; have hnc29 := NB414_443.out; have hnb30 := NB443_422.out; have hnc30 := NB422_443.out; have hnb31 := NB443_437.out; have hnc31 := NB437_443.out; have hcz32_0 : w28.cell? ⟨gb443, 0, none⟩ = some (.int .u32 0) := (qC BK443.out 0).trans rfl; have hcz32_1 : w28.cell? ⟨gb443, 1, none⟩ = some (.int .i16 0) := (qC BK443.out 1).trans rfl; have hcz32_2 : w28.cell? ⟨gb443, 2, none⟩ = some (.bool false) := (qC BK443.out 2).trans rfl; have hcz32_3 : w28.cell? ⟨gb443, 3, none⟩ = some (.int .u16 0) := (qC BK443.out 3).trans rfl; have hcz32_4 : w28.cell? ⟨gb443, 4, none⟩ = some (.int .u16 0) := (qC BK443.out 4).trans rfl; have hfz32_0 := qF BK443.out 0; have hfz32_1 := qF BK443.out 1; have hfz32_2 := qF BK443.out 2; have hfz32_3 := qF BK443.out 3; have hfz32_4 := qF BK443.out 4))
        refine name_w (fun w33 hq_ => ?_)
        have n0_ : Aside0 (w33.heap[gb414]? = some (.cells #[.int .i16 a1_0, .int .i16 a1_1, .int .i16 a1_2] 144 (0, 0))) := ⟨by rw [hq_]; exact (by (with_reducible repeat (first | refine qN ?_ _ | refine qD ?_ | refine qA ?_ _)); refine blk_far ?_ NB414_443.out _; (with_reducible repeat (first | refine qN ?_ _ | refine qD ?_ | refine qA ?_ _)); refine blk_far ?_ NB414_443.out _; (with_reducible repeat (first | refine qN ?_ _ | refine qD ?_ | refine qA ?_ _)); refine blk_far ?_ NB414_443.out _; (with_reducible repeat (first | refine qN ?_ _ | refine qD ?_ | refine qA ?_ _)); refine blk_far ?_ NB414_443.out _; (with_reducible repeat (first | refine qN ?_ _ | refine qD ?_ | refine qA ?_ _)); refine blk_far ?_ NB414_443.out _; (with_reducible repeat (first | refine qN ?_ _ | refine qD ?_ | refine qA ?_ _)); exact BK414.out)⟩
        have n1_ : Aside0 (w33.heap[gb422]? = some (.cells #[.int .u32 t415, .int .i64 t416, .int .i64 t417, .int .i64 (Go.bits .and .i64 (wrap64 (a1_0)) 1023), .int .i64 (Go.bits .and .i64 (wrap64 (a1_1)) 1023), .int .i64 (Go.bits .and .i64 (wrap64 (a1_2)) 32767), .int .i64 t421] 134 (0, 0))) := ⟨by rw [hq_]; exact (by (with_reducible repeat (first | refine qN ?_ _ | refine qD ?_ | refine qA ?_ _)); refine blk_far ?_ NB422_443.out _; (with_reducible repeat (first | refine qN ?_ _ | refine qD ?_ | refine qA ?_ _)); refine blk_far ?_ NB422_443.out _; (with_reducible repeat (first | refine qN ?_ _ | refine qD ?_ | refine qA ?_ _)); refine blk_far ?_ NB422_443.out _; (with_reducible repeat (first | refine qN ?_ _ | refine qD ?_ | refine qA ?_ _)); refine blk_far ?_ NB422_443.out _; (with_reducible repeat (first | refine qN ?_ _ | refine qD ?_ | refine qA ?_ _)); refine blk_far ?_ NB422_443.out _; (with_reducible repeat (first | refine qN ?_ _ | refine qD ?_ | refine qA ?_ _)); exact BK422.out)⟩
        have n2_ : Aside0 (w33.heap[gb437]? = some (.cells #[.int .u32 x438000_2, .int .i64 x438001_2, .int .i64 x438002_2, .int .i64 x438003_2, .int .i64 x438004_2, .int .i64 x438005_2, .int .i64 x438006_2, .bool x438007_2, .int .i64 x438008_2, .int .i64 x438009_2, .int .i64 x438010_2, .int .i64 x438011_2, .int .i64 x438012_2] 137 (0, 0))) := ⟨by rw [hq_]; exact (by (with_reducible repeat (first | refine qN ?_ _ | refine qD ?_ | refine qA ?_ _)); refine blk_far ?_ NB437_443.out _; (with_reducible repeat (first | refine qN ?_ _ | refine qD ?_ | refine qA ?_ _)); refine blk_far ?_ NB437_443.out _; (with_reducible repeat (first | refine qN ?_ _ | refine qD ?_ | refine qA ?_ _)); refine blk_far ?_ NB437_443.out _; (with_reducible repeat (first | refine qN ?_ _ | refine qD ?_ | refine qA ?_ _)); refine blk_far ?_ NB437_443.out _; (with_reducible repeat (first | refine qN ?_ _ | refine qD ?_ | refine qA ?_ _)); refine blk_far ?_ NB437_443.out _; (with_reducible repeat (first | refine qN ?_ _ | refine qD ?_ | refine qA ?_ _)); exact BK437.out)⟩
        have n3_ : Aside0 (w33.heap[gb443]? = some (.cells #[.int .u32 ((rd_T151 l2 x13_2).f0), .int .i16 ((rd_T151 l2 x13_2).f1), .bool ((rd_T151 l2 x13_2).f2), .int .u16 ((rd_T151 l2 x13_2).f3), .int .u16 ((rd_T151 l2 x13_2).f4)] 151 (0, 0))) := ⟨by rw [hq_]; exact (by (with_reducible repeat (first | refine qN ?_ _ | refine qD ?_ | refine qA ?_ _)); refine blk_put (cs := #[.int .u32 ((rd_T151 l2 x13_2).f0), .int .i16 ((rd_T151 l2 x13_2).f1), .bool ((rd_T151 l2 x13_2).f2), .int .u16 ((rd_T151 l2 x13_2).f3), .int .u16 0]) ?_ 4 _ rfl; (with_reducible repeat (first | refine qN ?_ _ | refine qD ?_ | refine qA ?_ _)); refine blk_put (cs := #[.int .u32 ((rd_T151 l2 x13_2).f0), .int .i16 ((rd_T151 l2 x13_2).f1), .bool ((rd_T151 l2 x13_2).f2), .int .u16 0, .int .u16 0]) ?_ 3 _ rfl; (with_reducible repeat (first | refine qN ?_ _ | refine qD ?_ | refine qA ?_ _)); refine blk_put (cs := #[.int .u32 ((rd_T151 l2 x13_2).f0), .int .i16 ((rd_T151 l2 x13_2).f1), .bool false, .int .u16 0, .int .u16 0]) ?_ 2 _ rfl; (with_reducible repeat (first | refine qN ?_ _ | refine qD ?_ | refine qA ?_ _)); refine blk_put (cs := #[.int .u32 ((rd_T151 l2 x13_2).f0), .int .i16 0, .bool false, .int .u16 0, .int .u16 0]) ?_ 1 _ rfl; (with_reducible repeat (first | refine qN ?_ _ | refine qD ?_ | refine qA ?_ _)); refine blk_put (cs := #[.int .u32 0, .int .i16 0, .bool false, .int .u16 0, .int .u16 0]) ?_ 0 _ rfl; (with_reducible repeat (first | refine qN ?_ _ | refine qD ?_ | refine qA ?_ _)); exact BK443.out)⟩
        have n4_ : Aside0 (Below w.heap.size w w33) := ⟨by rw [hq_]; exact (bW4 HB.out GE414.out GE422.out GE437.out GE443.out)⟩
        clear hq_
        (try clear BK414)
        (try clear BK422)
        (try clear BK437)
        (try clear BK443)
        (try clear HB)
        have BK414 := n0_
        have BK422 := n1_
        have BK437 := n2_
        have BK443 := n3_
        have HB := n4_
        clear n0_ n1_ n2_ n3_ n4_
        have n0_ := qS (qD BK414.out)
        have n1_ := qS (qD BK422.out)
        have n2_ := qS (qD BK437.out)
        have n3_ := qS (qD BK443.out)
        have n4_ := qS (qp1 HB.out)
        clear BK414
        clear BK422
        clear BK437
        clear BK443
        clear HB
        have BK414 := n0_
        have BK422 := n1_
        have BK437 := n2_
        have BK443 := n3_
        have HB := n4_
        clear n0_ n1_ n2_ n3_ n4_
        refine start_ (n := 12) (S := fun w' => w'.cell? ⟨gb443, 0, none⟩ = some (.int .u32 ((rd_T151 l2 x13_2).f0)) ∧ w'.cell? ⟨gb443, 1, none⟩ = some (.int .i16 ((rd_T151 l2 x13_2).f1)) ∧ w'.cell? ⟨gb443, 2, none⟩ = some (.bool ((rd_T151 l2 x13_2).f2)) ∧ w'.cell? ⟨gb443, 3, none⟩ = some (.int .u16 ((rd_T151 l2 x13_2).f3)) ∧ w'.cell? ⟨gb443, 4, none⟩ = some (.int .u16 ((rd_T151 l2 x13_2).f4))) (ds := []) #[false, false, false, false, false, false, false, false, false, false, false, false] (by kernel_rfl) rfl rfl ⟨(qC BK443.out 0).trans rfl, (qC BK443.out 1).trans rfl, (qC BK443.out 2).trans rfl, (qC BK443.out 3).trans rfl, (qC BK443.out 4).trans rfl⟩ (fun hHeld => ?_); refine with_tabW fuseelaw18_HostHolds.tab11 fuseelaw18_HostHolds.bits11 (fun HT_ HW_ => ?_)
        generalize w33.drew = w34 at BK414 BK422 BK437 BK443 HB hHeld ⊢
        refine pure_ (i := 0) (N := some 74) (v := ?_) (a' := ?_) #[true, false, false, false, false, false, false, false, false, false, false, false] rfl rfl (any_of HT_.out (by kernel_rfl)) (fun _ _ _ h => h) (Or.inl ⟨by rfl, ?_⟩) ?_ ?_
        rotate_left
        ·intro w'
         go_simp
         with_reducible rfl
        rotate_left
        ·simp only [Act.put, List.setIfInBounds_toArray, List.set_cons_zero, List.set_cons_succ, i64_w, i32_w]
         rfl
        refine pure_ (i := 1) (N := some 75) (v := ?_) (a' := ?_) #[true, true, false, false, false, false, false, false, false, false, false, false] rfl rfl (any_of HT_.out (by kernel_rfl)) (fun _ _ _ h => h) (Or.inl ⟨by rfl, ?_⟩) ?_ ?_
        rotate_left
        ·intro w'
         go_simp
         with_reducible rfl
        rotate_left
        ·simp only [Act.put, List.setIfInBounds_toArray, List.set_cons_zero, List.set_cons_succ, i64_w, i32_w]
         rfl
        refine pure_ (i := 5) (N := some 79) (v := ?_) (a' := ?_) #[true, true, false, false, false, true, false, false, false, false, false, false] rfl rfl (any_of HT_.out (by kernel_rfl)) (fun _ _ _ h => h) (Or.inl ⟨by rfl, ?_⟩) ?_ ?_
        rotate_left
        ·intro w'
         go_simp
         with_reducible rfl
        rotate_left
        ·simp only [Act.put, List.setIfInBounds_toArray, List.set_cons_zero, List.set_cons_succ, i64_w, i32_w]
         rfl
        refine pure_ (i := 6) (N := some 80) (v := ?_) (a' := ?_) #[true, true, false, false, false, true, true, false, false, false, false, false] rfl rfl (any_of HT_.out (by kernel_rfl)) (fun _ _ _ h => h) (Or.inl ⟨by rfl, ?_⟩) ?_ ?_
        rotate_left
        ·intro w'
         go_simp
         with_reducible rfl
        rotate_left
        ·simp only [Act.put, List.setIfInBounds_toArray, List.set_cons_zero, List.set_cons_succ, i64_w, i32_w]
         rfl
        refine take_ (i := 2) (N := some 76) (v := ?_) (a' := ?_) #[true, true, true, false, false, true, true, false, false, false, false, false] rfl rfl (take_ofW HT_.out HW_.out (by kernel_rfl)) (fun _ _ _ h => h) (Or.inl ⟨by rfl, ?_⟩) hHeld ?_ ?_
        rotate_left
        ·rintro w' ⟨s0, s1, s2, s3, s4⟩
         go_simp
         with_reducible rfl
        rotate_left
        ·simp only [Act.put, List.setIfInBounds_toArray, List.set_cons_zero, List.set_cons_succ, i64_w, i32_w]
         rfl
        refine pure_ (i := 3) (N := some 77) (v := ?_) (a' := ?_) #[true, true, true, true, false, true, true, false, false, false, false, false] rfl rfl (any_of HT_.out (by kernel_rfl)) (fun _ _ _ h => h) (Or.inl ⟨by rfl, ?_⟩) ?_ ?_
        rotate_left
        ·intro w'
         go_simp
         with_reducible rfl
        rotate_left
        ·simp only [Act.put, List.setIfInBounds_toArray, List.set_cons_zero, List.set_cons_succ, i64_w, i32_w]
         rfl
        refine pure_ (i := 4) (N := some 78) (v := ?_) (a' := ?_) #[true, true, true, true, true, true, true, false, false, false, false, false] rfl rfl (any_of HT_.out (by kernel_rfl)) (fun _ _ _ h => h) (Or.inl ⟨by rfl, ?_⟩) ?_ ?_
        rotate_left
        ·intro w'
         go_simp
         with_reducible rfl
        rotate_left
        ·simp only [Act.put, List.setIfInBounds_toArray, List.set_cons_zero, List.set_cons_succ, i64_w, i32_w]
         rfl
        refine pure_ (i := 10) (N := some 10) (v := ?_) (a' := ?_) #[true, true, true, true, true, true, true, false, false, false, true, false] rfl rfl (any_of HT_.out (by kernel_rfl)) (fun _ _ _ h => h) (Or.inl ⟨by rfl, ?_⟩) ?_ ?_
        rotate_left
        ·intro w'
         go_simp
         with_reducible rfl
        rotate_left
        ·simp only [Act.put, List.setIfInBounds_toArray, List.set_cons_zero, List.set_cons_succ, i64_w, i32_w]
         rfl
        refine take_ (i := 7) (N := some 81) (v := ?_) (a' := ?_) #[true, true, true, true, true, true, true, true, false, false, true, false] rfl rfl (take_ofW HT_.out HW_.out (by kernel_rfl)) (fun _ _ _ h => h) (Or.inl ⟨by rfl, ?_⟩) hHeld ?_ ?_
        rotate_left
        ·rintro w' ⟨s0, s1, s2, s3, s4⟩
         go_simp
         with_reducible rfl
        rotate_left
        ·simp only [Act.put, List.setIfInBounds_toArray, List.set_cons_zero, List.set_cons_succ, i64_w, i32_w]
         rfl
        refine pure_ (i := 8) (N := some 82) (v := ?_) (a' := ?_) #[true, true, true, true, true, true, true, true, true, false, true, false] rfl rfl (any_of HT_.out (by kernel_rfl)) (fun _ _ _ h => h) (Or.inl ⟨by rfl, ?_⟩) ?_ ?_
        rotate_left
        ·intro w'
         go_simp
         with_reducible rfl
        rotate_left
        ·simp only [Act.put, List.setIfInBounds_toArray, List.set_cons_zero, List.set_cons_succ, i64_w, i32_w]
         rfl
        refine pure_ (i := 9) (N := some 83) (v := ?_) (a' := ?_) #[true, true, true, true, true, true, true, true, true, true, true, false] rfl rfl (any_of HT_.out (by kernel_rfl)) (fun _ _ _ h => h) (Or.inl ⟨by rfl, ?_⟩) ?_ ?_
        rotate_left
        ·intro w'
         go_simp
         with_reducible rfl
        rotate_left
        ·simp only [Act.put, List.setIfInBounds_toArray, List.set_cons_zero, List.set_cons_succ, i64_w, i32_w]
         rfl
        refine pure_ (i := 11) (N := some 11) (v := ?_) (a' := ?_) #[true, true, true, true, true, true, true, true, true, true, true, true] rfl rfl (any_of HT_.out (by kernel_rfl)) (fun _ _ _ h => h) (Or.inl ⟨by rfl, ?_⟩) ?_ ?_
        rotate_left
        ·intro w'
         go_simp
         with_reducible rfl
        rotate_left
        ·simp only [Act.put, List.setIfInBounds_toArray, List.set_cons_zero, List.set_cons_succ, i64_w, i32_w]
         rfl
        refine done_ (done_of HT_.out (by kernel_rfl)) ?_
        have hcz35_0 : w34.cell? ⟨gb443, 0, none⟩ = some (.int .u32 ((rd_T151 l2 x13_2).f0)) := (qC BK443.out 0).trans rfl
        have hcz35_1 : w34.cell? ⟨gb443, 1, none⟩ = some (.int .i16 ((rd_T151 l2 x13_2).f1)) := (qC BK443.out 1).trans rfl
        have hcz35_2 : w34.cell? ⟨gb443, 2, none⟩ = some (.bool ((rd_T151 l2 x13_2).f2)) := (qC BK443.out 2).trans rfl
        have hcz35_3 : w34.cell? ⟨gb443, 3, none⟩ = some (.int .u16 ((rd_T151 l2 x13_2).f3)) := (qC BK443.out 3).trans rfl
        have hcz35_4 : w34.cell? ⟨gb443, 4, none⟩ = some (.int .u16 ((rd_T151 l2 x13_2).f4)) := (qC BK443.out 4).trans rfl
        have hfz35_0 := qF BK443.out 0
        have hfz35_1 := qF BK443.out 1
        have hfz35_2 := qF BK443.out 2
        have hfz35_3 := qF BK443.out 3
        have hfz35_4 := qF BK443.out 4
        go_upto_if 99 with (fail)
        go_cut [11, 12] (fun v11 v12 wc => ∃ (kq : Nat) (x11_26 : Int) (x12_26 : Int) (x438000_26 : Int) (x438001_26 : Int) (x438002_26 : Int) (x438003_26 : Int) (x438004_26 : Int) (x438005_26 : Int) (x438006_26 : Int) (x438007_26 : Bool) (x438008_26 : Int) (x438009_26 : Int) (x438010_26 : Int) (x438011_26 : Int) (x438012_26 : Int), v11 = .int .i64 x11_26 ∧ v12 = .int .i64 x12_26 ∧ Aside0 (fuseelaw18_HostHolds.j2 kq l2 (wrap64 (x10_2 + (wrap64 ((rd_T151 l2 x13_2).f0)))) x11_26 x12_26 x13_2 (wrap64 ((wrap64 (x12_2 + (wrap64 (x11_2 + (wrap64 ((rd_T151 l2 x13_2).f0)))))) + (wrap64 (Int.tdiv (wrap64 ((wrap64 (Int.tdiv (wrap64 ((wrap64 (x11_2 + (wrap64 ((rd_T151 l2 x13_2).f0)))) * 100)) 1073741824)) * (wrap64 ((rd_T151 l2 x13_2).f1)))) 32768)))) x438000_26 x438001_26 x438002_26 x438003_26 x438004_26 x438005_26 x438006_26 x438007_26 x438008_26 x438009_26 x438010_26 x438011_26 x438012_26 = some r) ∧ Aside0 (kq ≤ k2) ∧ Aside0 (wc.heap[gb414]? = some (.cells #[.int .i16 a1_0, .int .i16 a1_1, .int .i16 a1_2] 144 (0, 0))) ∧ Aside0 (wc.heap[gb422]? = some (.cells #[.int .u32 t415, .int .i64 t416, .int .i64 t417, .int .i64 (Go.bits .and .i64 (wrap64 (a1_0)) 1023), .int .i64 (Go.bits .and .i64 (wrap64 (a1_1)) 1023), .int .i64 (Go.bits .and .i64 (wrap64 (a1_2)) 32767), .int .i64 t421] 134 (0, 0))) ∧ Aside0 (wc.heap[gb437]? = some (.cells #[.int .u32 x438000_26, .int .i64 x438001_26, .int .i64 x438002_26, .int .i64 x438003_26, .int .i64 x438004_26, .int .i64 x438005_26, .int .i64 x438006_26, .bool x438007_26, .int .i64 x438008_26, .int .i64 x438009_26, .int .i64 x438010_26, .int .i64 x438011_26, .int .i64 x438012_26] 137 (0, 0))) ∧ Aside0 (wc.heap[gb443]? = some (.cells #[.int .u32 ((rd_T151 l2 x13_2).f0), .int .i16 ((rd_T151 l2 x13_2).f1), .bool ((rd_T151 l2 x13_2).f2), .int .u16 ((rd_T151 l2 x13_2).f3), .int .u16 ((rd_T151 l2 x13_2).f4)] 151 (0, 0))) ∧ Aside0 (Below w.heap.size w wc))
        case first =>
         have H := HC27.out
         clear HC27
         obtain ⟨bq36, hbq36⟩ : ∃ b_ : Bool, b_ = ((rd_T151 l2 x13_2).f2) := ⟨_, rfl⟩
         replace H : (if bq36 = true then ((host_Sync.f k2 x438000_2 x438001_2 x438002_2 x438003_2 x438004_2 x438005_2 x438006_2 x438007_2 x438008_2 x438009_2 x438010_2 x438011_2 x438012_2 (wrap64 (x10_2 + (wrap64 ((rd_T151 l2 x13_2).f0)))) (wrap64 ((wrap64 ((wrap64 (x12_2 + (wrap64 (x11_2 + (wrap64 ((rd_T151 l2 x13_2).f0)))))) + (wrap64 (Int.tdiv (wrap64 ((wrap64 (Int.tdiv (wrap64 ((wrap64 (x11_2 + (wrap64 ((rd_T151 l2 x13_2).f0)))) * 100)) 1073741824)) * (wrap64 ((rd_T151 l2 x13_2).f1)))) 32768)))) - (wrap64 ((rd_T151 l2 x13_2).f3)))) (wrap64 ((wrap64 ((wrap64 (x12_2 + (wrap64 (x11_2 + (wrap64 ((rd_T151 l2 x13_2).f0)))))) + (wrap64 (Int.tdiv (wrap64 ((wrap64 (Int.tdiv (wrap64 ((wrap64 (x11_2 + (wrap64 ((rd_T151 l2 x13_2).f0)))) * 100)) 1073741824)) * (wrap64 ((rd_T151 l2 x13_2).f1)))) 32768)))) + (wrap64 ((rd_T151 l2 x13_2).f4))))).bind fun bt445 => (if bt445.2.2.2.2.2.2.2.2.2.2.2.2.2.isNone = true then (fuseelaw18_HostHolds.j2 k2 l2 (wrap64 (x10_2 + (wrap64 ((rd_T151 l2 x13_2).f0)))) 0 (wrap64 ((wrap64 (x12_2 + (wrap64 (x11_2 + (wrap64 ((rd_T151 l2 x13_2).f0)))))) + (wrap64 (Int.tdiv (wrap64 ((wrap64 (Int.tdiv (wrap64 ((wrap64 (x11_2 + (wrap64 ((rd_T151 l2 x13_2).f0)))) * 100)) 1073741824)) * (wrap64 ((rd_T151 l2 x13_2).f1)))) 32768)))) x13_2 (wrap64 ((wrap64 (x12_2 + (wrap64 (x11_2 + (wrap64 ((rd_T151 l2 x13_2).f0)))))) + (wrap64 (Int.tdiv (wrap64 ((wrap64 (Int.tdiv (wrap64 ((wrap64 (x11_2 + (wrap64 ((rd_T151 l2 x13_2).f0)))) * 100)) 1073741824)) * (wrap64 ((rd_T151 l2 x13_2).f1)))) 32768)))) bt445.1 bt445.2.1 bt445.2.2.1 bt445.2.2.2.1 bt445.2.2.2.2.1 bt445.2.2.2.2.2.1 bt445.2.2.2.2.2.2.1 bt445.2.2.2.2.2.2.2.1 bt445.2.2.2.2.2.2.2.2.1 bt445.2.2.2.2.2.2.2.2.2.1 bt445.2.2.2.2.2.2.2.2.2.2.1 bt445.2.2.2.2.2.2.2.2.2.2.2.1 bt445.2.2.2.2.2.2.2.2.2.2.2.2.1) else (none))) else (fuseelaw18_HostHolds.j2 k2 l2 (wrap64 (x10_2 + (wrap64 ((rd_T151 l2 x13_2).f0)))) (wrap64 (x11_2 + (wrap64 ((rd_T151 l2 x13_2).f0)))) x12_2 x13_2 (wrap64 ((wrap64 (x12_2 + (wrap64 (x11_2 + (wrap64 ((rd_T151 l2 x13_2).f0)))))) + (wrap64 (Int.tdiv (wrap64 ((wrap64 (Int.tdiv (wrap64 ((wrap64 (x11_2 + (wrap64 ((rd_T151 l2 x13_2).f0)))) * 100)) 1073741824)) * (wrap64 ((rd_T151 l2 x13_2).f1)))) 32768)))) x438000_2 x438001_2 x438002_2 x438003_2 x438004_2 x438005_2 x438006_2 x438007_2 x438008_2 x438009_2 x438010_2 x438011_2 x438012_2)) = some r := by rw [← hbq36] at H; exact H
         have Nbq36 := qS hbq36
         clear hbq36
         (try rw [← Nbq36.out])
         by_cases c37 : bq36 = true
         ·subst c37
          have H1 : ((host_Sync.f k2 x438000_2 x438001_2 x438002_2 x438003_2 x438004_2 x438005_2 x438006_2 x438007_2 x438008_2 x438009_2 x438010_2 x438011_2 x438012_2 (wrap64 (x10_2 + (wrap64 ((rd_T151 l2 x13_2).f0)))) (wrap64 ((wrap64 ((wrap64 (x12_2 + (wrap64 (x11_2 + (wrap64 ((rd_T151 l2 x13_2).f0)))))) + (wrap64 (Int.tdiv (wrap64 ((wrap64 (Int.tdiv (wrap64 ((wrap64 (x11_2 + (wrap64 ((rd_T151 l2 x13_2).f0)))) * 100)) 1073741824)) * (wrap64 ((rd_T151 l2 x13_2).f1)))) 32768)))) - (wrap64 ((rd_T151 l2 x13_2).f3)))) (wrap64 ((wrap64 ((wrap64 (x12_2 + (wrap64 (x11_2 + (wrap64 ((rd_T151 l2 x13_2).f0)))))) + (wrap64 (Int.tdiv (wrap64 ((wrap64 (Int.tdiv (wrap64 ((wrap64 (x11_2 + (wrap64 ((rd_T151 l2 x13_2).f0)))) * 100)) 1073741824)) * (wrap64 ((rd_T151 l2 x13_2).f1)))) 32768)))) + (wrap64 ((rd_T151 l2 x13_2).f4))))).bind fun bt445 => (if bt445.2.2.2.2.2.2.2.2.2.2.2.2.2.isNone = true then (fuseelaw18_HostHolds.j2 k2 l2 (wrap64 (x10_2 + (wrap64 ((rd_T151 l2 x13_2).f0)))) 0 (wrap64 ((wrap64 (x12_2 + (wrap64 (x11_2 + (wrap64 ((rd_T151 l2 x13_2).f0)))))) + (wrap64 (Int.tdiv (wrap64 ((wrap64 (Int.tdiv (wrap64 ((wrap64 (x11_2 + (wrap64 ((rd_T151 l2 x13_2).f0)))) * 100)) 1073741824)) * (wrap64 ((rd_T151 l2 x13_2).f1)))) 32768)))) x13_2 (wrap64 ((wrap64 (x12_2 + (wrap64 (x11_2 + (wrap64 ((rd_T151 l2 x13_2).f0)))))) + (wrap64 (Int.tdiv (wrap64 ((wrap64 (Int.tdiv (wrap64 ((wrap64 (x11_2 + (wrap64 ((rd_T151 l2 x13_2).f0)))) * 100)) 1073741824)) * (wrap64 ((rd_T151 l2 x13_2).f1)))) 32768)))) bt445.1 bt445.2.1 bt445.2.2.1 bt445.2.2.2.1 bt445.2.2.2.2.1 bt445.2.2.2.2.2.1 bt445.2.2.2.2.2.2.1 bt445.2.2.2.2.2.2.2.1 bt445.2.2.2.2.2.2.2.2.1 bt445.2.2.2.2.2.2.2.2.2.1 bt445.2.2.2.2.2.2.2.2.2.2.1 bt445.2.2.2.2.2.2.2.2.2.2.2.1 bt445.2.2.2.2.2.2.2.2.2.2.2.2.1) else (none))) = some r := by rw [if_pos rfl] at H; exact H
          clear H
          have H := H1
          clear H1
          replace H := Option.bind_eq_some_iff.mp H
          obtain ⟨⟨t445, t446, t447, t448, t449, t450, t451, t452, t453, t454, t455, t456, t457, t458⟩, A380, H⟩ := H
          replace H : (if t458.isNone = true then (fuseelaw18_HostHolds.j2 k2 l2 (wrap64 (x10_2 + (wrap64 ((rd_T151 l2 x13_2).f0)))) 0 (wrap64 ((wrap64 (x12_2 + (wrap64 (x11_2 + (wrap64 ((rd_T151 l2 x13_2).f0)))))) + (wrap64 (Int.tdiv (wrap64 ((wrap64 (Int.tdiv (wrap64 ((wrap64 (x11_2 + (wrap64 ((rd_T151 l2 x13_2).f0)))) * 100)) 1073741824)) * (wrap64 ((rd_T151 l2 x13_2).f1)))) 32768)))) x13_2 (wrap64 ((wrap64 (x12_2 + (wrap64 (x11_2 + (wrap64 ((rd_T151 l2 x13_2).f0)))))) + (wrap64 (Int.tdiv (wrap64 ((wrap64 (Int.tdiv (wrap64 ((wrap64 (x11_2 + (wrap64 ((rd_T151 l2 x13_2).f0)))) * 100)) 1073741824)) * (wrap64 ((rd_T151 l2 x13_2).f1)))) 32768)))) t445 t446 t447 t448 t449 t450 t451 t452 t453 t454 t455 t456 t457) else (none)) = some r := H
          have A38 := qS A380
          clear A380
          rcases t458 with _ | q459
          ·have H1 : (fuseelaw18_HostHolds.j2 k2 l2 (wrap64 (x10_2 + (wrap64 ((rd_T151 l2 x13_2).f0)))) 0 (wrap64 ((wrap64 (x12_2 + (wrap64 (x11_2 + (wrap64 ((rd_T151 l2 x13_2).f0)))))) + (wrap64 (Int.tdiv (wrap64 ((wrap64 (Int.tdiv (wrap64 ((wrap64 (x11_2 + (wrap64 ((rd_T151 l2 x13_2).f0)))) * 100)) 1073741824)) * (wrap64 ((rd_T151 l2 x13_2).f1)))) 32768)))) x13_2 (wrap64 ((wrap64 (x12_2 + (wrap64 (x11_2 + (wrap64 ((rd_T151 l2 x13_2).f0)))))) + (wrap64 (Int.tdiv (wrap64 ((wrap64 (Int.tdiv (wrap64 ((wrap64 (x11_2 + (wrap64 ((rd_T151 l2 x13_2).f0)))) * 100)) 1073741824)) * (wrap64 ((rd_T151 l2 x13_2).f1)))) 32768)))) t445 t446 t447 t448 t449 t450 t451 t452 t453 t454 t455 t456 t457) = some r := by rw [if_pos (show (none : Option Int).isNone = true by rfl)] at H; exact H
           clear H
           have H := H1
           clear H1
           try simp only [errW_none, errW_some]
           as_aux_lemma =>
            have H' := qS H
            clear H
            have hnb39 := NB443_414.out
            have hnc39 := NB414_443.out
            have hnb40 := NB443_422.out
            have hnc40 := NB422_443.out
            have hnb41 := NB443_437.out
            have hnc41 := NB437_443.out
            have hcz42_0 : w34.cell? ⟨gb443, 0, none⟩ = some (.int .u32 ((rd_T151 l2 x13_2).f0)) := (qC BK443.out 0).trans rfl
            have hcz42_1 : w34.cell? ⟨gb443, 1, none⟩ = some (.int .i16 ((rd_T151 l2 x13_2).f1)) := (qC BK443.out 1).trans rfl
            have hcz42_2 : w34.cell? ⟨gb443, 2, none⟩ = some (.bool ((rd_T151 l2 x13_2).f2)) := (qC BK443.out 2).trans rfl
            have hcz42_3 : w34.cell? ⟨gb443, 3, none⟩ = some (.int .u16 ((rd_T151 l2 x13_2).f3)) := (qC BK443.out 3).trans rfl
            have hcz42_4 : w34.cell? ⟨gb443, 4, none⟩ = some (.int .u16 ((rd_T151 l2 x13_2).f4)) := (qC BK443.out 4).trans rfl
            have hfz42_0 := qF BK443.out 0
            have hfz42_1 := qF BK443.out 1
            have hfz42_2 := qF BK443.out 2
            have hfz42_3 := qF BK443.out 3
            have hfz42_4 := qF BK443.out 4
            go_wp2_with (first | ((with_reducible refine gate_dst (N := 18) rfl ?_); (try (refine gate_guard (by rfl) ?_; dsimp only)); refine box_event ?hg (N := 18) ?hd (cs := #[.int .i64 0, .int .i64 0]) (t := 86) ?hr ?_; (case hd => rfl); (case hg => rfl); (case hr => first | (go_simp; done) | (go_simp; rfl)); intro gb444 hg w43 hbox hb; have n0_ := qS (qB (g := gb414) (o := .cells #[.int .i16 a1_0, .int .i16 a1_1, .int .i16 a1_2] 144 (0, 0)) (qW BK414.out) hb); have n1_ := qS (qB (g := gb422) (o := .cells #[.int .u32 t415, .int .i64 t416, .int .i64 t417, .int .i64 (Go.bits .and .i64 (wrap64 (a1_0)) 1023), .int .i64 (Go.bits .and .i64 (wrap64 (a1_1)) 1023), .int .i64 (Go.bits .and .i64 (wrap64 (a1_2)) 32767), .int .i64 t421] 134 (0, 0)) (qW BK422.out) hb); have n2_ := qS (qB (g := gb437) (o := .cells #[.int .u32 x438000_2, .int .i64 x438001_2, .int .i64 x438002_2, .int .i64 x438003_2, .int .i64 x438004_2, .int .i64 x438005_2, .int .i64 x438006_2, .bool x438007_2, .int .i64 x438008_2, .int .i64 x438009_2, .int .i64 x438010_2, .int .i64 x438011_2, .int .i64 x438012_2] 137 (0, 0)) (qW BK437.out) hb); have n3_ := qS (qB (g := gb443) (o := .cells #[.int .u32 ((rd_T151 l2 x13_2).f0), .int .i16 ((rd_T151 l2 x13_2).f1), .bool ((rd_T151 l2 x13_2).f2), .int .u16 ((rd_T151 l2 x13_2).f3), .int .u16 ((rd_T151 l2 x13_2).f4)] 151 (0, 0)) (qW BK443.out) hb); have n4_ := qS (below_step (bW4 HB.out GE414.out GE422.out GE437.out GE443.out) hb); have n5_ := qS (hbox); have n6_ := qS ((by rw [hg]; exact (below_size (bW4 HB.out GE414.out GE422.out GE437.out GE443.out)) : w.heap.size ≤ gb444)); have n7_ := qS ((by rw [hg]; exact (below_size (bW4 HB.out GE414.out GE422.out GE437.out GE443.out)) : w.heap.size ≤ gb444)); have n8_ := qS ((by rw [hg]; exact Nat.ne_of_lt (blk_lt (g := gb414) (o := .cells #[.int .i16 a1_0, .int .i16 a1_1, .int .i16 a1_2] 144 (0, 0)) (qW BK414.out)) : gb414 ≠ gb444)); have n9_ := qS ((by rw [hg]; exact Nat.ne_of_gt (blk_lt (g := gb414) (o := .cells #[.int .i16 a1_0, .int .i16 a1_1, .int .i16 a1_2] 144 (0, 0)) (qW BK414.out)) : gb444 ≠ gb414)); have n10_ := qS ((by rw [hg]; exact Nat.ne_of_lt (blk_lt (g := gb422) (o := .cells #[.int .u32 t415, .int .i64 t416, .int .i64 t417, .int .i64 (Go.bits .and .i64 (wrap64 (a1_0)) 1023), .int .i64 (Go.bits .and .i64 (wrap64 (a1_1)) 1023), .int .i64 (Go.bits .and .i64 (wrap64 (a1_2)) 32767), .int .i64 t421] 134 (0, 0)) (qW BK422.out)) : gb422 ≠ gb444)); have n11_ := qS ((by rw [hg]; exact Nat.ne_of_gt (blk_lt (g := gb422) (o := .cells #[.int .u32 t415, .int .i64 t416, .int .i64 t417, .int .i64 (Go.bits .and .i64 (wrap64 (a1_0)) 1023), .int .i64 (Go.bits .and .i64 (wrap64 (a1_1)) 1023), .int .i64 (Go.bits .and .i64 (wrap64 (a1_2)) 32767), .int .i64 t421] 134 (0, 0)) (qW BK422.out)) : gb444 ≠ gb422)); have n12_ := qS ((by rw [hg]; exact Nat.ne_of_lt (blk_lt (g := gb437) (o := .cells #[.int .u32 x438000_2, .int .i64 x438001_2, .int .i64 x438002_2, .int .i64 x438003_2, .int .i64 x438004_2, .int .i64 x438005_2, .int .i64 x438006_2, .bool x438007_2, .int .i64 x438008_2, .int .i64 x438009_2, .int .i64 x438010_2, .int .i64 x438011_2, .int .i64 x438012_2] 137 (0, 0)) (qW BK437.out)) : gb437 ≠ gb444)); have n13_ := qS ((by rw [hg]; exact Nat.ne_of_gt (blk_lt (g := gb437) (o := .cells #[.int .u32 x438000_2, .int .i64 x438001_2, .int .i64 x438002_2, .int .i64 x438003_2, .int .i64 x438004_2, .int .i64 x438005_2, .int .i64 x438006_2, .bool x438007_2, .int .i64 x438008_2, .int .i64 x438009_2, .int .i64 x438010_2, .int .i64 x438011_2, .int .i64 x438012_2] 137 (0, 0)) (qW BK437.out)) : gb444 ≠ gb437)); have n14_ := qS ((by rw [hg]; exact Nat.ne_of_lt (blk_lt (g := gb443) (o := .cells #[.int .u32 ((rd_T151 l2 x13_2).f0), .int .i16 ((rd_T151 l2 x13_2).f1), .bool ((rd_T151 l2 x13_2).f2), .int .u16 ((rd_T151 l2 x13_2).f3), .int .u16 ((rd_T151 l2 x13_2).f4)] 151 (0, 0)) (qW BK443.out)) : gb443 ≠ gb444)); have n15_ := qS ((by rw [hg]; exact Nat.ne_of_gt (blk_lt (g := gb443) (o := .cells #[.int .u32 ((rd_T151 l2 x13_2).f0), .int .i16 ((rd_T151 l2 x13_2).f1), .bool ((rd_T151 l2 x13_2).f2), .int .u16 ((rd_T151 l2 x13_2).f3), .int .u16 ((rd_T151 l2 x13_2).f4)] 151 (0, 0)) (qW BK443.out)) : gb444 ≠ gb443)); clear BK414; clear BK422; clear BK437; clear BK443; clear HB; have BK414 := n0_; have BK422 := n1_; have BK437 := n2_; have BK443 := n3_; have HB := n4_; have BK444 := n5_; have GW444 := n6_; have GE444 := n7_; have NB414_444 := n8_; have NB444_414 := n9_; have NB422_444 := n10_; have NB444_422 := n11_; have NB437_444 := n12_; have NB444_437 := n13_; have NB443_444 := n14_; have NB444_443 := n15_; clear n0_ n1_ n2_ n3_ n4_ n5_ n6_ n7_ n8_ n9_ n10_ n11_ n12_ n13_ n14_ n15_; clear hb hbox hg; have hnb44 := NB444_414.out; have hnc44 := NB414_444.out; have hnb45 := NB444_422.out; have hnc45 := NB422_444.out; have hnb46 := NB444_437.out; have hnc46 := NB437_444.out; have hnb47 := NB444_443.out; have hnc47 := NB443_444.out; have hcz48_0 : w43.cell? ⟨gb444, 0, none⟩ = some (.int .i64 0) := (qC BK444.out 0).trans rfl; have hcz48_1 : w43.cell? ⟨gb444, 1, none⟩ = some (.int .i64 0) := (qC BK444.out 1).trans rfl; have hfz48_0 := qF BK444.out 0; have hfz48_1 := qF BK444.out 1; have hnb49 := NB437_414.out; have hnc49 := NB414_437.out; have hnb50 := NB437_422.out; have hnc50 := NB422_437.out; have hcz51_0 : w43.cell? ⟨gb437, 0, none⟩ = some (.int .u32 x438000_2) := (qC BK437.out 0).trans rfl; have hcz51_1 : w43.cell? ⟨gb437, 1, none⟩ = some (.int .i64 x438001_2) := (qC BK437.out 1).trans rfl; have hcz51_2 : w43.cell? ⟨gb437, 2, none⟩ = some (.int .i64 x438002_2) := (qC BK437.out 2).trans rfl; have hcz51_3 : w43.cell? ⟨gb437, 3, none⟩ = some (.int .i64 x438003_2) := (qC BK437.out 3).trans rfl; have hcz51_4 : w43.cell? ⟨gb437, 4, none⟩ = some (.int .i64 x438004_2) := (qC BK437.out 4).trans rfl; have hcz51_5 : w43.cell? ⟨gb437, 5, none⟩ = some (.int .i64 x438005_2) := (qC BK437.out 5).trans rfl; have hcz51_6 : w43.cell? ⟨gb437, 6, none⟩ = some (.int .i64 x438006_2) := (qC BK437.out 6).trans rfl; have hcz51_7 : w43.cell? ⟨gb437, 7, none⟩ = some (.bool x438007_2) := (qC BK437.out 7).trans rfl; have hcz51_8 : w43.cell? ⟨gb437, 8, none⟩ = some (.int .i64 x438008_2) := (qC BK437.out 8).trans rfl; have hcz51_9 : w43.cell? ⟨gb437, 9, none⟩ = some (.int .i64 x438009_2) := (qC BK437.out 9).trans rfl; have hcz51_10 : w43.cell? ⟨gb437, 10, none⟩ = some (.int .i64 x438010_2) := (qC BK437.out 10).trans rfl; have hcz51_11 : w43.cell? ⟨gb437, 11, none⟩ = some (.int .i64 x438011_2) := (qC BK437.out 11).trans rfl; have hcz51_12 : w43.cell? ⟨gb437, 12, none⟩ = some (.int .i64 x438012_2) := (qC BK437.out 12).trans rfl; have hfz51_0 := qF BK437.out 0; have hfz51_1 := qF BK437.out 1; have hfz51_2 := qF BK437.out 2; have hfz51_3 := qF BK437.out 3; have hfz51_4 := qF BK437.out 4; have hfz51_5 := qF BK437.out 5; have hfz51_6 := qF BK437.out 6; have hfz51_7 := qF BK437.out 7; have hfz51_8 := qF BK437.out 8; have hfz51_9 := qF BK437.out 9; have hfz51_10 := qF BK437.out 10; have hfz51_11 := qF BK437.out 11; have hfz51_12 := qF BK437.out 12) | ((with_reducible refine gate_dst (N := 112) rfl ?_); (try (refine gate_guard (by rfl) ?_; dsimp only)); refine rowget_event rfl rfl gb437 0 137 #[.int .u32 x438000_2, .int .i64 x438001_2, .int .i64 x438002_2, .int .i64 x438003_2, .int .i64 x438004_2, .int .i64 x438005_2, .int .i64 x438006_2, .bool x438007_2, .int .i64 x438008_2, .int .i64 x438009_2, .int .i64 x438010_2, .int .i64 x438011_2, .int .i64 x438012_2] #[.int .u32 x438000_2, .int .i64 x438001_2, .int .i64 x438002_2, .int .i64 x438003_2, .int .i64 x438004_2, .int .i64 x438005_2, .int .i64 x438006_2, .bool x438007_2, .int .i64 x438008_2, .int .i64 x438009_2, .int .i64 x438010_2, .int .i64 x438011_2, .int .i64 x438012_2] _ rfl (by (with_reducible repeat (first | refine qN ?_ _ | refine qD ?_ | refine qA ?_ _)); refine blk_far ?_ NB437_444.out _; (with_reducible repeat (first | refine qN ?_ _ | refine qD ?_ | refine qA ?_ _)); refine blk_far ?_ NB437_444.out _; (with_reducible repeat (first | refine qN ?_ _ | refine qD ?_ | refine qA ?_ _)); exact BK437.out) rfl Tryd.underlying137 rfl (by kernel_rfl) ?_) | (go_at_call 60; refine calls_of_args (args' := #[.agg #[.int .u32 x438000_2, .int .i64 x438001_2, .int .i64 x438002_2, .int .i64 x438003_2, .int .i64 x438004_2, .int .i64 x438005_2, .int .i64 x438006_2, .bool x438007_2, .int .i64 x438008_2, .int .i64 x438009_2, .int .i64 x438010_2, .int .i64 x438011_2, .int .i64 x438012_2], .int .i64 (wrap64 (x10_2 + (wrap64 ((rd_T151 l2 x13_2).f0)))), .agg #[.int .i64 (wrap64 ((wrap64 ((wrap64 (x12_2 + (wrap64 (x11_2 + (wrap64 ((rd_T151 l2 x13_2).f0)))))) + (wrap64 (Int.tdiv (wrap64 ((wrap64 (Int.tdiv (wrap64 ((wrap64 (x11_2 + (wrap64 ((rd_T151 l2 x13_2).f0)))) * 100)) 1073741824)) * (wrap64 ((rd_T151 l2 x13_2).f1)))) 32768)))) - (wrap64 ((rd_T151 l2 x13_2).f3)))), .int .i64 (wrap64 ((wrap64 ((wrap64 (x12_2 + (wrap64 (x11_2 + (wrap64 ((rd_T151 l2 x13_2).f0)))))) + (wrap64 (Int.tdiv (wrap64 ((wrap64 (Int.tdiv (wrap64 ((wrap64 (x11_2 + (wrap64 ((rd_T151 l2 x13_2).f0)))) * 100)) 1073741824)) * (wrap64 ((rd_T151 l2 x13_2).f1)))) 32768)))) + (wrap64 ((rd_T151 l2 x13_2).f4))))]]) ?_ ?_; (focus (first | (rw [show (x438007_2) = true by with_reducible assumption]) | (rw [show (x438007_2) = false by with_reducible assumption]) | rfl | (simp only [*]; done) | (simp [*]; done))); (with_reducible refine (host_Sync.calls k2 x438000_2 x438001_2 x438002_2 x438003_2 x438004_2 x438005_2 x438006_2 x438007_2 x438008_2 x438009_2 x438010_2 x438011_2 x438012_2 (wrap64 (x10_2 + (wrap64 ((rd_T151 l2 x13_2).f0)))) (wrap64 ((wrap64 ((wrap64 (x12_2 + (wrap64 (x11_2 + (wrap64 ((rd_T151 l2 x13_2).f0)))))) + (wrap64 (Int.tdiv (wrap64 ((wrap64 (Int.tdiv (wrap64 ((wrap64 (x11_2 + (wrap64 ((rd_T151 l2 x13_2).f0)))) * 100)) 1073741824)) * (wrap64 ((rd_T151 l2 x13_2).f1)))) 32768)))) - (wrap64 ((rd_T151 l2 x13_2).f3)))) (wrap64 ((wrap64 ((wrap64 (x12_2 + (wrap64 (x11_2 + (wrap64 ((rd_T151 l2 x13_2).f0)))))) + (wrap64 (Int.tdiv (wrap64 ((wrap64 (Int.tdiv (wrap64 ((wrap64 (x11_2 + (wrap64 ((rd_T151 l2 x13_2).f0)))) * 100)) 1073741824)) * (wrap64 ((rd_T151 l2 x13_2).f1)))) 32768)))) + (wrap64 ((rd_T151 l2 x13_2).f4)))) t445 t446 t447 t448 t449 t450 t451 t452 t453 t454 t455 t456 t457 none _ A38.out).mono ?_); rintro e w52 ⟨rfl, hb⟩; have n0_ := qS (qB (g := gb414) (o := .cells #[.int .i16 a1_0, .int .i16 a1_1, .int .i16 a1_2] 144 (0, 0)) (by (with_reducible repeat (first | refine qN ?_ _ | refine qD ?_ | refine qA ?_ _)); refine blk_far ?_ NB414_444.out _; (with_reducible repeat (first | refine qN ?_ _ | refine qD ?_ | refine qA ?_ _)); refine blk_far ?_ NB414_444.out _; (with_reducible repeat (first | refine qN ?_ _ | refine qD ?_ | refine qA ?_ _)); exact BK414.out) hb); have n1_ := qS (qB (g := gb422) (o := .cells #[.int .u32 t415, .int .i64 t416, .int .i64 t417, .int .i64 (Go.bits .and .i64 (wrap64 (a1_0)) 1023), .int .i64 (Go.bits .and .i64 (wrap64 (a1_1)) 1023), .int .i64 (Go.bits .and .i64 (wrap64 (a1_2)) 32767), .int .i64 t421] 134 (0, 0)) (by (with_reducible repeat (first | refine qN ?_ _ | refine qD ?_ | refine qA ?_ _)); refine blk_far ?_ NB422_444.out _; (with_reducible repeat (first | refine qN ?_ _ | refine qD ?_ | refine qA ?_ _)); refine blk_far ?_ NB422_444.out _; (with_reducible repeat (first | refine qN ?_ _ | refine qD ?_ | refine qA ?_ _)); exact BK422.out) hb); have n2_ := qS (qB (g := gb437) (o := .cells #[.int .u32 x438000_2, .int .i64 x438001_2, .int .i64 x438002_2, .int .i64 x438003_2, .int .i64 x438004_2, .int .i64 x438005_2, .int .i64 x438006_2, .bool x438007_2, .int .i64 x438008_2, .int .i64 x438009_2, .int .i64 x438010_2, .int .i64 x438011_2, .int .i64 x438012_2] 137 (0, 0)) (by (with_reducible repeat (first | refine qN ?_ _ | refine qD ?_ | refine qA ?_ _)); refine blk_far ?_ NB437_444.out _; (with_reducible repeat (first | refine qN ?_ _ | refine qD ?_ | refine qA ?_ _)); refine blk_far ?_ NB437_444.out _; (with_reducible repeat (first | refine qN ?_ _ | refine qD ?_ | refine qA ?_ _)); exact BK437.out) hb); have n3_ := qS (qB (g := gb443) (o := .cells #[.int .u32 ((rd_T151 l2 x13_2).f0), .int .i16 ((rd_T151 l2 x13_2).f1), .bool ((rd_T151 l2 x13_2).f2), .int .u16 ((rd_T151 l2 x13_2).f3), .int .u16 ((rd_T151 l2 x13_2).f4)] 151 (0, 0)) (by (with_reducible repeat (first | refine qN ?_ _ | refine qD ?_ | refine qA ?_ _)); refine blk_far ?_ NB443_444.out _; (with_reducible repeat (first | refine qN ?_ _ | refine qD ?_ | refine qA ?_ _)); refine blk_far ?_ NB443_444.out _; (with_reducible repeat (first | refine qN ?_ _ | refine qD ?_ | refine qA ?_ _)); exact BK443.out) hb); have n4_ := qS (qB (g := gb444) (o := .cells #[.int .i64 (wrap64 ((wrap64 ((wrap64 (x12_2 + (wrap64 (x11_2 + (wrap64 ((rd_T151 l2 x13_2).f0)))))) + (wrap64 (Int.tdiv (wrap64 ((wrap64 (Int.tdiv (wrap64 ((wrap64 (x11_2 + (wrap64 ((rd_T151 l2 x13_2).f0)))) * 100)) 1073741824)) * (wrap64 ((rd_T151 l2 x13_2).f1)))) 32768)))) - (wrap64 ((rd_T151 l2 x13_2).f3)))), .int .i64 (wrap64 ((wrap64 ((wrap64 (x12_2 + (wrap64 (x11_2 + (wrap64 ((rd_T151 l2 x13_2).f0)))))) + (wrap64 (Int.tdiv (wrap64 ((wrap64 (Int.tdiv (wrap64 ((wrap64 (x11_2 + (wrap64 ((rd_T151 l2 x13_2).f0)))) * 100)) 1073741824)) * (wrap64 ((rd_T151 l2 x13_2).f1)))) 32768)))) + (wrap64 ((rd_T151 l2 x13_2).f4))))] 86 (0, 0)) (by (with_reducible repeat (first | refine qN ?_ _ | refine qD ?_ | refine qA ?_ _)); refine blk_put (cs := #[.int .i64 (wrap64 ((wrap64 ((wrap64 (x12_2 + (wrap64 (x11_2 + (wrap64 ((rd_T151 l2 x13_2).f0)))))) + (wrap64 (Int.tdiv (wrap64 ((wrap64 (Int.tdiv (wrap64 ((wrap64 (x11_2 + (wrap64 ((rd_T151 l2 x13_2).f0)))) * 100)) 1073741824)) * (wrap64 ((rd_T151 l2 x13_2).f1)))) 32768)))) - (wrap64 ((rd_T151 l2 x13_2).f3)))), .int .i64 0]) ?_ 1 _ rfl; (with_reducible repeat (first | refine qN ?_ _ | refine qD ?_ | refine qA ?_ _)); refine blk_put (cs := #[.int .i64 0, .int .i64 0]) ?_ 0 _ rfl; (with_reducible repeat (first | refine qN ?_ _ | refine qD ?_ | refine qA ?_ _)); exact BK444.out) hb); have n5_ := qS (below_step (bW5 HB.out GE414.out GE422.out GE437.out GE443.out GE444.out) hb); clear BK414; clear BK422; clear BK437; clear BK443; clear BK444; clear HB; have BK414 := n0_; have BK422 := n1_; have BK437 := n2_; have BK443 := n3_; have BK444 := n4_; have HB := n5_; clear n0_ n1_ n2_ n3_ n4_ n5_; (try clear hb); (try clear hb2); (try clear hk); (try clear hi); (try simp only [errW_none, errW_some])) | ((with_reducible refine gate_store (t := 137) (p := 8) rfl ?_); refine rowput_event rfl rfl rfl gb437 0 137 #[.int .u32 x438000_2, .int .i64 x438001_2, .int .i64 x438002_2, .int .i64 x438003_2, .int .i64 x438004_2, .int .i64 x438005_2, .int .i64 x438006_2, .bool x438007_2, .int .i64 x438008_2, .int .i64 x438009_2, .int .i64 x438010_2, .int .i64 x438011_2, .int .i64 x438012_2] #[.int .u32 t445, .int .i64 t446, .int .i64 t447, .int .i64 t448, .int .i64 t449, .int .i64 t450, .int .i64 t451, .bool t452, .int .i64 t453, .int .i64 t454, .int .i64 t455, .int .i64 t456, .int .i64 t457] _ [.int .u32 t445, .int .i64 t446, .int .i64 t447, .int .i64 t448, .int .i64 t449, .int .i64 t450, .int .i64 t451, .bool t452, .int .i64 t453, .int .i64 t454, .int .i64 t455, .int .i64 t456, .int .i64 t457] rfl rfl rfl (qW BK437.out) (by kernel_rfl) (by simp) (by simp [Value.oneCell']) rfl (bW5 HB.out GE414.out GE422.out GE437.out GE443.out GE444.out) GE437.out ?_; intro w53 hnw_ hfar_ hb_; have n0_ : Aside0 (w53.heap[gb414]? = some (.cells #[.int .i16 a1_0, .int .i16 a1_1, .int .i16 a1_2] 144 (0, 0))) := ⟨(hfar_ _ NB414_437.out).trans (qW BK414.out)⟩; have n1_ : Aside0 (w53.heap[gb422]? = some (.cells #[.int .u32 t415, .int .i64 t416, .int .i64 t417, .int .i64 (Go.bits .and .i64 (wrap64 (a1_0)) 1023), .int .i64 (Go.bits .and .i64 (wrap64 (a1_1)) 1023), .int .i64 (Go.bits .and .i64 (wrap64 (a1_2)) 32767), .int .i64 t421] 134 (0, 0))) := ⟨(hfar_ _ NB422_437.out).trans (qW BK422.out)⟩; have n2_ : Aside0 (w53.heap[gb437]? = some (.cells #[.int .u32 t445, .int .i64 t446, .int .i64 t447, .int .i64 t448, .int .i64 t449, .int .i64 t450, .int .i64 t451, .bool t452, .int .i64 t453, .int .i64 t454, .int .i64 t455, .int .i64 t456, .int .i64 t457] 137 (0, 0))) := ⟨hnw_⟩; have n3_ : Aside0 (w53.heap[gb443]? = some (.cells #[.int .u32 ((rd_T151 l2 x13_2).f0), .int .i16 ((rd_T151 l2 x13_2).f1), .bool ((rd_T151 l2 x13_2).f2), .int .u16 ((rd_T151 l2 x13_2).f3), .int .u16 ((rd_T151 l2 x13_2).f4)] 151 (0, 0))) := ⟨(hfar_ _ NB443_437.out).trans (qW BK443.out)⟩; have n4_ : Aside0 (w53.heap[gb444]? = some (.cells #[.int .i64 (wrap64 ((wrap64 ((wrap64 (x12_2 + (wrap64 (x11_2 + (wrap64 ((rd_T151 l2 x13_2).f0)))))) + (wrap64 (Int.tdiv (wrap64 ((wrap64 (Int.tdiv (wrap64 ((wrap64 (x11_2 + (wrap64 ((rd_T151 l2 x13_2).f0)))) * 100)) 1073741824)) * (wrap64 ((rd_T151 l2 x13_2).f1)))) 32768)))) - (wrap64 ((rd_T151 l2 x13_2).f3)))), .int .i64 (wrap64 ((wrap64 ((wrap64 (x12_2 + (wrap64 (x11_2 + (wrap64 ((rd_T151 l2 x13_2).f0)))))) + (wrap64 (Int.tdiv (wrap64 ((wrap64 (Int.tdiv (wrap64 ((wrap64 (x11_2 + (wrap64 ((rd_T151 l2 x13_2).f0)))) * 100)) 1073741824)) * (wrap64 ((rd_T151 l2 x13_2).f1)))) 32768)))) + (wrap64 ((rd_T151 l2 x13_2).f4))))] 86 (0, 0))) := ⟨(hfar_ _ NB444_437.out).trans (qW BK444.out)⟩; have nb_ := qS hb_; clear hnw_ hfar_ hb_ HB BK414 BK422 BK437 BK443 BK444; have BK414 := n0_; have BK422 := n1_; have BK437 := n2_; have BK443 := n3_; have BK444 := n4_; have HB := nb_; clear nb_ n0_ n1_ n2_ n3_ n4_))
            go_meet
            case rel => exact ⟨_, (0), (wrap64 ((wrap64 (x12_2 + (wrap64 (x11_2 + (wrap64 ((rd_T151 l2 x13_2).f0)))))) + (wrap64 (Int.tdiv (wrap64 ((wrap64 (Int.tdiv (wrap64 ((wrap64 (x11_2 + (wrap64 ((rd_T151 l2 x13_2).f0)))) * 100)) 1073741824)) * (wrap64 ((rd_T151 l2 x13_2).f1)))) 32768)))), (t445), (t446), (t447), (t448), (t449), (t450), (t451), (t452), (t453), (t454), (t455), (t456), (t457), (by first | rfl | (simp; done) | (simp [*]; done)), (by first | rfl | (simp; done) | (simp [*]; done)), H', ⟨by have := HJ5.out; have := HK2.out; first | omega | exact Nat.le_refl _⟩, ⟨by (with_reducible repeat (first | refine qN ?_ _ | refine qD ?_ | refine qA ?_ _)); exact BK414.out⟩, ⟨by (with_reducible repeat (first | refine qN ?_ _ | refine qD ?_ | refine qA ?_ _)); exact BK422.out⟩, ⟨by (with_reducible repeat (first | refine qN ?_ _ | refine qD ?_ | refine qA ?_ _)); exact BK437.out⟩, ⟨by (with_reducible repeat (first | refine qN ?_ _ | refine qD ?_ | refine qA ?_ _)); exact BK443.out⟩, ⟨by repeat (first | (with_reducible first | exact HB.out | apply qpA | apply qpN | apply qp1 | refine qpS ?_ GE414.out | refine qpS ?_ GE422.out | refine qpS ?_ GE437.out | refine qpS ?_ GE443.out | refine qpS ?_ GE444.out) | exact HB.out)⟩⟩
          ·have H1 : (none) = some r := by rw [if_neg (show ¬ (some q459).isNone = true by simp)] at H; exact H
           clear H
           have H := H1
           clear H1
           try simp only [errW_none, errW_some]
           exact absurd H (by simp)
         ·replace c37 := Bool.eq_false_iff.mpr c37
          subst c37
          have H1 : (fuseelaw18_HostHolds.j2 k2 l2 (wrap64 (x10_2 + (wrap64 ((rd_T151 l2 x13_2).f0)))) (wrap64 (x11_2 + (wrap64 ((rd_T151 l2 x13_2).f0)))) x12_2 x13_2 (wrap64 ((wrap64 (x12_2 + (wrap64 (x11_2 + (wrap64 ((rd_T151 l2 x13_2).f0)))))) + (wrap64 (Int.tdiv (wrap64 ((wrap64 (Int.tdiv (wrap64 ((wrap64 (x11_2 + (wrap64 ((rd_T151 l2 x13_2).f0)))) * 100)) 1073741824)) * (wrap64 ((rd_T151 l2 x13_2).f1)))) 32768)))) x438000_2 x438001_2 x438002_2 x438003_2 x438004_2 x438005_2 x438006_2 x438007_2 x438008_2 x438009_2 x438010_2 x438011_2 x438012_2) = some r := by rw [if_neg (show ¬ (false = true) by decide)] at H; exact H
          clear H
          have H := H1
          clear H1
          as_aux_lemma =>
           have H' := qS H
           clear H
           go_wp2
           go_meet
           case rel => exact ⟨_, (wrap64 (x11_2 + (wrap64 ((rd_T151 l2 x13_2).f0)))), (x12_2), (x438000_2), (x438001_2), (x438002_2), (x438003_2), (x438004_2), (x438005_2), (x438006_2), (x438007_2), (x438008_2), (x438009_2), (x438010_2), (x438011_2), (x438012_2), (by first | rfl | (simp; done) | (simp [*]; done)), (by first | rfl | (simp; done) | (simp [*]; done)), H', ⟨by have := HJ5.out; have := HK2.out; first | omega | exact Nat.le_refl _⟩, ⟨by (with_reducible repeat (first | refine qN ?_ _ | refine qD ?_ | refine qA ?_ _)); exact BK414.out⟩, ⟨by (with_reducible repeat (first | refine qN ?_ _ | refine qD ?_ | refine qA ?_ _)); exact BK422.out⟩, ⟨by (with_reducible repeat (first | refine qN ?_ _ | refine qD ?_ | refine qA ?_ _)); exact BK437.out⟩, ⟨by (with_reducible repeat (first | refine qN ?_ _ | refine qD ?_ | refine qA ?_ _)); exact BK443.out⟩, ⟨by repeat (first | (with_reducible first | exact HB.out | apply qpA | apply qpN | apply qp1 | refine qpS ?_ GE414.out | refine qpS ?_ GE422.out | refine qpS ?_ GE437.out | refine qpS ?_ GE443.out) | exact HB.out)⟩⟩
        case rest =>
         clear HC27
         try clear c1
         try clear c2
         try clear p2
         try clear c3
         try clear q3
         try clear c4
         try clear p4
         try clear q4
         try clear hx4
         try clear c5
         try clear p6
         try clear c11
         try clear c15
         try clear c20
         try clear c20b0
         try clear c21
         try clear c21b0
         try clear c22
         try clear c25
         try clear c25b0
         try clear c26
         try clear c26b0
         try clear c29
         try clear c30
         try clear c31
         try clear q36
         try clear c37
         try clear c39
         try clear c40
         try clear c41
         try clear q43
         try clear c44
         try clear p44
         try clear q44
         try clear hx44
         try clear c45
         try clear q45
         try clear c46
         try clear c47
         try clear c49
         try clear c50
         try clear hcz16_0
         try clear hcz16_1
         try clear hcz16_2
         try clear hcz16_3
         try clear hcz16_4
         try clear hcz16_5
         try clear hcz16_6
         try clear hcz32_0
         try clear hcz32_1
         try clear hcz32_2
         try clear hcz32_3
         try clear hcz32_4
         try clear hcz35_0
         try clear hcz35_1
         try clear hcz35_2
         try clear hcz35_3
         try clear hcz35_4
         try clear hcz42_0
         try clear hcz42_1
         try clear hcz42_2
         try clear hcz42_3
         try clear hcz42_4
         try clear hcz48_0
         try clear hcz48_1
         try clear hcz51_0
         try clear hcz51_1
         try clear hcz51_10
         try clear hcz51_11
         try clear hcz51_12
         try clear hcz51_2
         try clear hcz51_3
         try clear hcz51_4
         try clear hcz51_5
         try clear hcz51_6
         try clear hcz51_7
         try clear hcz51_8
         try clear hcz51_9
         try clear hfz16_0
         try clear hfz16_1
         try clear hfz16_2
         try clear hfz16_3
         try clear hfz16_4
         try clear hfz16_5
         try clear hfz16_6
         try clear hfz32_0
         try clear hfz32_1
         try clear hfz32_2
         try clear hfz32_3
         try clear hfz32_4
         try clear hfz35_0
         try clear hfz35_1
         try clear hfz35_2
         try clear hfz35_3
         try clear hfz35_4
         try clear hfz42_0
         try clear hfz42_1
         try clear hfz42_2
         try clear hfz42_3
         try clear hfz42_4
         try clear hfz48_0
         try clear hfz48_1
         try clear hfz51_0
         try clear hfz51_1
         try clear hfz51_10
         try clear hfz51_11
         try clear hfz51_12
         try clear hfz51_2
         try clear hfz51_3
         try clear hfz51_4
         try clear hfz51_5
         try clear hfz51_6
         try clear hfz51_7
         try clear hfz51_8
         try clear hfz51_9
         try clear hx442_0
         try clear hx442_1
         try clear hx442_2
         try clear hx442_3
         try clear hx442_4
         try clear p2
         try clear p442
         try clear p6
         try clear q4
         try clear q438
         try clear q439
         try clear q442
         try clear q459
         obtain ⟨kq, x11_26, x12_26, x438000_26, x438001_26, x438002_26, x438003_26, x438004_26, x438005_26, x438006_26, x438007_26, x438008_26, x438009_26, x438010_26, x438011_26, x438012_26, rfl, rfl, HA, HJ26, BK414, BK422, BK437, BK443, HB⟩ := hcut
         cases kq with
         | zero => exact absurd HA.out (by simp [fuseelaw18_HostHolds.j2])
         | succ kj26 =>
          have H := HA.out
          clear HA
          simp only [fuseelaw18_HostHolds.j2] at H
          replace H := Option.bind_eq_some_iff.mp H
          obtain ⟨⟨t460, t461, t462⟩, A540, H⟩ := H
          replace H : (if t462.isNone = true then (if (wrap64 (t460 - (wrap64 ((wrap64 (x12_2 + (wrap64 (x11_2 + (wrap64 ((rd_T151 l2 x13_2).f0)))))) + (wrap64 (Int.tdiv (wrap64 ((wrap64 (Int.tdiv (wrap64 ((wrap64 (x11_2 + (wrap64 ((rd_T151 l2 x13_2).f0)))) * 100)) 1073741824)) * (wrap64 ((rd_T151 l2 x13_2).f1)))) 32768)))))) > t461 then (none) else (if (wrap64 ((wrap64 ((wrap64 (x12_2 + (wrap64 (x11_2 + (wrap64 ((rd_T151 l2 x13_2).f0)))))) + (wrap64 (Int.tdiv (wrap64 ((wrap64 (Int.tdiv (wrap64 ((wrap64 (x11_2 + (wrap64 ((rd_T151 l2 x13_2).f0)))) * 100)) 1073741824)) * (wrap64 ((rd_T151 l2 x13_2).f1)))) 32768)))) - t460)) > t461 then (none) else (fuseelaw18_HostHolds.l0 kj26 l2 (wrap64 (x10_2 + (wrap64 ((rd_T151 l2 x13_2).f0)))) x11_26 x12_26 (wrap64 (x13_2 + 1)) x438000_26 x438001_26 x438002_26 x438003_26 x438004_26 x438005_26 x438006_26 x438007_26 x438008_26 x438009_26 x438010_26 x438011_26 x438012_26))) else ((fuseelaw18_num.f (some (t462.getD 0))).bind fun t464 => (if t464 = 13 then (if x438007_26 = true then (fuseelaw18_HostHolds.j3 kj26 l2 (wrap64 (x10_2 + (wrap64 ((rd_T151 l2 x13_2).f0)))) x11_26 x12_26 x13_2 (t461 != 0) x438000_26 x438001_26 x438002_26 x438003_26 x438004_26 x438005_26 x438006_26 x438007_26 x438008_26 x438009_26 x438010_26 x438011_26 x438012_26) else (fuseelaw18_HostHolds.j3 kj26 l2 (wrap64 (x10_2 + (wrap64 ((rd_T151 l2 x13_2).f0)))) x11_26 x12_26 x13_2 false x438000_26 x438001_26 x438002_26 x438003_26 x438004_26 x438005_26 x438006_26 x438007_26 x438008_26 x438009_26 x438010_26 x438011_26 x438012_26)) else (fuseelaw18_HostHolds.j3 kj26 l2 (wrap64 (x10_2 + (wrap64 ((rd_T151 l2 x13_2).f0)))) x11_26 x12_26 x13_2 true x438000_26 x438001_26 x438002_26 x438003_26 x438004_26 x438005_26 x438006_26 x438007_26 x438008_26 x438009_26 x438010_26 x438011_26 x438012_26)))) = some r := H
          have A54 := qS A540
          clear A540
          rcases t462 with _ | q463
          ·have H1 : (if (wrap64 (t460 - (wrap64 ((wrap64 (x12_2 + (wrap64 (x11_2 + (wrap64 ((rd_T151 l2 x13_2).f0)))))) + (wrap64 (Int.tdiv (wrap64 ((wrap64 (Int.tdiv (wrap64 ((wrap64 (x11_2 + (wrap64 ((rd_T151 l2 x13_2).f0)))) * 100)) 1073741824)) * (wrap64 ((rd_T151 l2 x13_2).f1)))) 32768)))))) > t461 then (none) else (if (wrap64 ((wrap64 ((wrap64 (x12_2 + (wrap64 (x11_2 + (wrap64 ((rd_T151 l2 x13_2).f0)))))) + (wrap64 (Int.tdiv (wrap64 ((wrap64 (Int.tdiv (wrap64 ((wrap64 (x11_2 + (wrap64 ((rd_T151 l2 x13_2).f0)))) * 100)) 1073741824)) * (wrap64 ((rd_T151 l2 x13_2).f1)))) 32768)))) - t460)) > t461 then (none) else (fuseelaw18_HostHolds.l0 kj26 l2 (wrap64 (x10_2 + (wrap64 ((rd_T151 l2 x13_2).f0)))) x11_26 x12_26 (wrap64 (x13_2 + 1)) x438000_26 x438001_26 x438002_26 x438003_26 x438004_26 x438005_26 x438006_26 x438007_26 x438008_26 x438009_26 x438010_26 x438011_26 x438012_26))) = some r := by rw [if_pos (show (none : Option Int).isNone = true by rfl)] at H; exact H
           clear H
           have H := H1
           clear H1
           try simp only [errW_none, errW_some]
           by_cases c55 : (wrap64 (t460 - (wrap64 ((wrap64 (x12_2 + (wrap64 (x11_2 + (wrap64 ((rd_T151 l2 x13_2).f0)))))) + (wrap64 (Int.tdiv (wrap64 ((wrap64 (Int.tdiv (wrap64 ((wrap64 (x11_2 + (wrap64 ((rd_T151 l2 x13_2).f0)))) * 100)) 1073741824)) * (wrap64 ((rd_T151 l2 x13_2).f1)))) 32768)))))) > t461
           ·rw [if_pos c55] at H
            exact absurd H (by simp)
           ·rw [if_neg c55] at H
            have c55b0 : decide (t461 < (wrap64 (t460 - (wrap64 ((wrap64 (x12_2 + (wrap64 (x11_2 + (wrap64 ((rd_T151 l2 x13_2).f0)))))) + (wrap64 (Int.tdiv (wrap64 ((wrap64 (Int.tdiv (wrap64 ((wrap64 (x11_2 + (wrap64 ((rd_T151 l2 x13_2).f0)))) * 100)) 1073741824)) * (wrap64 ((rd_T151 l2 x13_2).f1)))) 32768))))))) = false := decide_eq_false c55
            clear c55
            by_cases c56 : (wrap64 ((wrap64 ((wrap64 (x12_2 + (wrap64 (x11_2 + (wrap64 ((rd_T151 l2 x13_2).f0)))))) + (wrap64 (Int.tdiv (wrap64 ((wrap64 (Int.tdiv (wrap64 ((wrap64 (x11_2 + (wrap64 ((rd_T151 l2 x13_2).f0)))) * 100)) 1073741824)) * (wrap64 ((rd_T151 l2 x13_2).f1)))) 32768)))) - t460)) > t461
            ·rw [if_pos c56] at H
             exact absurd H (by simp)
            ·rw [if_neg c56] at H
             have c56b0 : decide (t461 < (wrap64 ((wrap64 ((wrap64 (x12_2 + (wrap64 (x11_2 + (wrap64 ((rd_T151 l2 x13_2).f0)))))) + (wrap64 (Int.tdiv (wrap64 ((wrap64 (Int.tdiv (wrap64 ((wrap64 (x11_2 + (wrap64 ((rd_T151 l2 x13_2).f0)))) * 100)) 1073741824)) * (wrap64 ((rd_T151 l2 x13_2).f1)))) 32768)))) - t460))) = false := decide_eq_false c56
             clear c56
             as_aux_lemma =>
              have H' := qS H
              clear H
              have hnb57 := NB437_414.out
              have hnc57 := NB414_437.out
              have hnb58 := NB437_422.out
              have hnc58 := NB422_437.out
              have hnb59 := NB437_443.out
              have hnc59 := NB443_437.out
              have hcz60_0 : wc.cell? ⟨gb437, 0, none⟩ = some (.int .u32 x438000_26) := (qC BK437.out 0).trans rfl
              have hcz60_1 : wc.cell? ⟨gb437, 1, none⟩ = some (.int .i64 x438001_26) := (qC BK437.out 1).trans rfl
              have hcz60_2 : wc.cell? ⟨gb437, 2, none⟩ = some (.int .i64 x438002_26) := (qC BK437.out 2).trans rfl
              have hcz60_3 : wc.cell? ⟨gb437, 3, none⟩ = some (.int .i64 x438003_26) := (qC BK437.out 3).trans rfl
              have hcz60_4 : wc.cell? ⟨gb437, 4, none⟩ = some (.int .i64 x438004_26) := (qC BK437.out 4).trans rfl
              have hcz60_5 : wc.cell? ⟨gb437, 5, none⟩ = some (.int .i64 x438005_26) := (qC BK437.out 5).trans rfl
              have hcz60_6 : wc.cell? ⟨gb437, 6, none⟩ = some (.int .i64 x438006_26) := (qC BK437.out 6).trans rfl
              have hcz60_7 : wc.cell? ⟨gb437, 7, none⟩ = some (.bool x438007_26) := (qC BK437.out 7).trans rfl
              have hcz60_8 : wc.cell? ⟨gb437, 8, none⟩ = some (.int .i64 x438008_26) := (qC BK437.out 8).trans rfl
              have hcz60_9 : wc.cell? ⟨gb437, 9, none⟩ = some (.int .i64 x438009_26) := (qC BK437.out 9).trans rfl
              have hcz60_10 : wc.cell? ⟨gb437, 10, none⟩ = some (.int .i64 x438010_26) := (qC BK437.out 10).trans rfl
              have hcz60_11 : wc.cell? ⟨gb437, 11, none⟩ = some (.int .i64 x438011_26) := (qC BK437.out 11).trans rfl
              have hcz60_12 : wc.cell? ⟨gb437, 12, none⟩ = some (.int .i64 x438012_26) := (qC BK437.out 12).trans rfl
              have hfz60_0 := qF BK437.out 0
              have hfz60_1 := qF BK437.out 1
              have hfz60_2 := qF BK437.out 2
              have hfz60_3 := qF BK437.out 3
              have hfz60_4 := qF BK437.out 4
              have hfz60_5 := qF BK437.out 5
              have hfz60_6 := qF BK437.out 6
              have hfz60_7 := qF BK437.out 7
              have hfz60_8 := qF BK437.out 8
              have hfz60_9 := qF BK437.out 9
              have hfz60_10 := qF BK437.out 10
              have hfz60_11 := qF BK437.out 11
              have hfz60_12 := qF BK437.out 12
              go_wp2_with (first | ((with_reducible refine gate_dst (N := 122) rfl ?_); (try (refine gate_guard (by rfl) ?_; dsimp only)); refine rowget_event rfl rfl gb437 0 137 #[.int .u32 x438000_26, .int .i64 x438001_26, .int .i64 x438002_26, .int .i64 x438003_26, .int .i64 x438004_26, .int .i64 x438005_26, .int .i64 x438006_26, .bool x438007_26, .int .i64 x438008_26, .int .i64 x438009_26, .int .i64 x438010_26, .int .i64 x438011_26, .int .i64 x438012_26] #[.int .u32 x438000_26, .int .i64 x438001_26, .int .i64 x438002_26, .int .i64 x438003_26, .int .i64 x438004_26, .int .i64 x438005_26, .int .i64 x438006_26, .bool x438007_26, .int .i64 x438008_26, .int .i64 x438009_26, .int .i64 x438010_26, .int .i64 x438011_26, .int .i64 x438012_26] _ rfl (qW BK437.out) rfl Tryd.underlying137 rfl (by kernel_rfl) ?_) | (go_at_call 56; refine calls_of_args (args' := #[.agg #[.int .u32 x438000_26, .int .i64 x438001_26, .int .i64 x438002_26, .int .i64 x438003_26, .int .i64 x438004_26, .int .i64 x438005_26, .int .i64 x438006_26, .bool x438007_26, .int .i64 x438008_26, .int .i64 x438009_26, .int .i64 x438010_26, .int .i64 x438011_26, .int .i64 x438012_26], .int .i64 (wrap64 (x10_2 + (wrap64 ((rd_T151 l2 x13_2).f0))))]) ?_ ?_; (focus (first | (rw [show (x438007_26) = true by with_reducible assumption]) | (rw [show (x438007_26) = false by with_reducible assumption]) | rfl | (simp only [*]; done) | (simp [*]; done))); (with_reducible refine (host_Now.calls kj26 x438000_26 x438001_26 x438002_26 x438003_26 x438004_26 x438005_26 x438006_26 x438007_26 x438008_26 x438009_26 x438010_26 x438011_26 x438012_26 (wrap64 (x10_2 + (wrap64 ((rd_T151 l2 x13_2).f0)))) t460 t461 none _ A54.out).mono ?_); rintro e w61 ⟨rfl, hb⟩; have n0_ := qS (qB (g := gb414) (o := .cells #[.int .i16 a1_0, .int .i16 a1_1, .int .i16 a1_2] 144 (0, 0)) (qW BK414.out) hb); have n1_ := qS (qB (g := gb422) (o := .cells #[.int .u32 t415, .int .i64 t416, .int .i64 t417, .int .i64 (Go.bits .and .i64 (wrap64 (a1_0)) 1023), .int .i64 (Go.bits .and .i64 (wrap64 (a1_1)) 1023), .int .i64 (Go.bits .and .i64 (wrap64 (a1_2)) 32767), .int .i64 t421] 134 (0, 0)) (qW BK422.out) hb); have n2_ := qS (qB (g := gb437) (o := .cells #[.int .u32 x438000_26, .int .i64 x438001_26, .int .i64 x438002_26, .int .i64 x438003_26, .int .i64 x438004_26, .int .i64 x438005_26, .int .i64 x438006_26, .bool x438007_26, .int .i64 x438008_26, .int .i64 x438009_26, .int .i64 x438010_26, .int .i64 x438011_26, .int .i64 x438012_26] 137 (0, 0)) (qW BK437.out) hb); have n3_ := qS (qB (g := gb443) (o := .cells #[.int .u32 ((rd_T151 l2 x13_2).f0), .int .i16 ((rd_T151 l2 x13_2).f1), .bool ((rd_T151 l2 x13_2).f2), .int .u16 ((rd_T151 l2 x13_2).f3), .int .u16 ((rd_T151 l2 x13_2).f4)] 151 (0, 0)) (qW BK443.out) hb); have n4_ := qS (below_step (bW4 HB.out GE414.out GE422.out GE437.out GE443.out) hb); clear BK414; clear BK422; clear BK437; clear BK443; clear HB; have BK414 := n0_; have BK422 := n1_; have BK437 := n2_; have BK443 := n3_; have HB := n4_; clear n0_ n1_ n2_ n3_ n4_; (try clear hb); (try clear hb2); (try clear hk); (try clear hi); (try simp only [errW_none, errW_some])))
              go_roundg kj26
              case measure => have := HJ5.out; have := HK2.out; have := HJ26.out; omega
              case rel => exact ⟨((wrap64 (x10_2 + (wrap64 ((rd_T151 l2 x13_2).f0))))), (x11_26), (x12_26), (wrap64 (x13_2 + 1)), (x438000_26), (x438001_26), (x438002_26), (x438003_26), (x438004_26), (x438005_26), (x438006_26), (x438007_26), (x438008_26), (x438009_26), (x438010_26), (x438011_26), (x438012_26), (by first | rfl | (simp; done) | (simp [*]; done)), (by first | rfl | (simp; done) | (simp [*]; done)), (by first | rfl | (simp; done) | (simp [*]; done)), (by first | rfl | (simp; done) | (simp [*]; done)), H', ⟨by have := HJ5.out; have := HK2.out; have := HJ26.out; omega⟩, ⟨by (with_reducible repeat (first | refine qN ?_ _ | refine qD ?_ | refine qA ?_ _)); exact BK414.out⟩, ⟨by (with_reducible repeat (first | refine qN ?_ _ | refine qD ?_ | refine qA ?_ _)); exact BK422.out⟩, ⟨by (with_reducible repeat (first | refine qN ?_ _ | refine qD ?_ | refine qA ?_ _)); exact BK437.out⟩, ⟨by repeat (first | (with_reducible first | exact HB.out | apply qpA | apply qpN | apply qp1 | refine qpS ?_ GE414.out | refine qpS ?_ GE422.out | refine qpS ?_ GE437.out | refine qpS ?_ GE443.out) | exact HB.out)⟩⟩
          ·have H1 : ((fuseelaw18_num.f (some q463)).bind fun t464 => (if t464 = 13 then (if x438007_26 = true then (fuseelaw18_HostHolds.j3 kj26 l2 (wrap64 (x10_2 + (wrap64 ((rd_T151 l2 x13_2).f0)))) x11_26 x12_26 x13_2 (t461 != 0) x438000_26 x438001_26 x438002_26 x438003_26 x438004_26 x438005_26 x438006_26 x438007_26 x438008_26 x438009_26 x438010_26 x438011_26 x438012_26) else (fuseelaw18_HostHolds.j3 kj26 l2 (wrap64 (x10_2 + (wrap64 ((rd_T151 l2 x13_2).f0)))) x11_26 x12_26 x13_2 false x438000_26 x438001_26 x438002_26 x438003_26 x438004_26 x438005_26 x438006_26 x438007_26 x438008_26 x438009_26 x438010_26 x438011_26 x438012_26)) else (fuseelaw18_HostHolds.j3 kj26 l2 (wrap64 (x10_2 + (wrap64 ((rd_T151 l2 x13_2).f0)))) x11_26 x12_26 x13_2 true x438000_26 x438001_26 x438002_26 x438003_26 x438004_26 x438005_26 x438006_26 x438007_26 x438008_26 x438009_26 x438010_26 x438011_26 x438012_26))) = some r := by rw [if_neg (show ¬ (some q463).isNone = true by simp)] at H; exact H
           clear H
           have H := H1
           clear H1
           try simp only [errW_none, errW_some]
           have HC62 := qS H
           clear H
           have hnb63 := NB437_414.out
           have hnc63 := NB414_437.out
           have hnb64 := NB437_422.out
           have hnc64 := NB422_437.out
           have hnb65 := NB437_443.out
           have hnc65 := NB443_437.out
           have hcz66_0 : wc.cell? ⟨gb437, 0, none⟩ = some (.int .u32 x438000_26) := (qC BK437.out 0).trans rfl
           have hcz66_1 : wc.cell? ⟨gb437, 1, none⟩ = some (.int .i64 x438001_26) := (qC BK437.out 1).trans rfl
           have hcz66_2 : wc.cell? ⟨gb437, 2, none⟩ = some (.int .i64 x438002_26) := (qC BK437.out 2).trans rfl
           have hcz66_3 : wc.cell? ⟨gb437, 3, none⟩ = some (.int .i64 x438003_26) := (qC BK437.out 3).trans rfl
           have hcz66_4 : wc.cell? ⟨gb437, 4, none⟩ = some (.int .i64 x438004_26) := (qC BK437.out 4).trans rfl
           have hcz66_5 : wc.cell? ⟨gb437, 5, none⟩ = some (.int .i64 x438005_26) := (qC BK437.out 5).trans rfl
           have hcz66_6 : wc.cell? ⟨gb437, 6, none⟩ = some (.int .i64 x438006_26) := (qC BK437.out 6).trans rfl
           have hcz66_7 : wc.cell? ⟨gb437, 7, none⟩ = some (.bool x438007_26) := (qC BK437.out 7).trans rfl
           have hcz66_8 : wc.cell? ⟨gb437, 8, none⟩ = some (.int .i64 x438008_26) := (qC BK437.out 8).trans rfl
           have hcz66_9 : wc.cell? ⟨gb437, 9, none⟩ = some (.int .i64 x438009_26) := (qC BK437.out 9).trans rfl
           have hcz66_10 : wc.cell? ⟨gb437, 10, none⟩ = some (.int .i64 x438010_26) := (qC BK437.out 10).trans rfl
           have hcz66_11 : wc.cell? ⟨gb437, 11, none⟩ = some (.int .i64 x438011_26) := (qC BK437.out 11).trans rfl
           have hcz66_12 : wc.cell? ⟨gb437, 12, none⟩ = some (.int .i64 x438012_26) := (qC BK437.out 12).trans rfl
           have hfz66_0 := qF BK437.out 0
           have hfz66_1 := qF BK437.out 1
           have hfz66_2 := qF BK437.out 2
           have hfz66_3 := qF BK437.out 3
           have hfz66_4 := qF BK437.out 4
           have hfz66_5 := qF BK437.out 5
           have hfz66_6 := qF BK437.out 6
           have hfz66_7 := qF BK437.out 7
           have hfz66_8 := qF BK437.out 8
           have hfz66_9 := qF BK437.out 9
           have hfz66_10 := qF BK437.out 10
           have hfz66_11 := qF BK437.out 11
           have hfz66_12 := qF BK437.out 12
           go_upto_region 23 with (first | ((with_reducible refine gate_dst (N := 122) rfl ?_); (try (refine gate_guard (by rfl) ?_; dsimp only)); refine rowget_event rfl rfl gb437 0 137 #[.int .u32 x438000_26, .int .i64 x438001_26, .int .i64 x438002_26, .int .i64 x438003_26, .int .i64 x438004_26, .int .i64 x438005_26, .int .i64 x438006_26, .bool x438007_26, .int .i64 x438008_26, .int .i64 x438009_26, .int .i64 x438010_26, .int .i64 x438011_26, .int .i64 x438012_26] #[.int .u32 x438000_26, .int .i64 x438001_26, .int .i64 x438002_26, .int .i64 x438003_26, .int .i64 x438004_26, .int .i64 x438005_26, .int .i64 x438006_26, .bool x438007_26, .int .i64 x438008_26, .int .i64 x438009_26, .int .i64 x438010_26, .int .i64 x438011_26, .int .i64 x438012_26] _ rfl (qW BK437.out) rfl Tryd.underlying137 rfl (by kernel_rfl) ?_) | (go_at_call 56; refine calls_of_args (args' := #[.agg #[.int .u32 x438000_26, .int .i64 x438001_26, .int .i64 x438002_26, .int .i64 x438003_26, .int .i64 x438004_26, .int .i64 x438005_26, .int .i64 x438006_26, .bool x438007_26, .int .i64 x438008_26, .int .i64 x438009_26, .int .i64 x438010_26, .int .i64 x438011_26, .int .i64 x438012_26], .int .i64 (wrap64 (x10_2 + (wrap64 ((rd_T151 l2 x13_2).f0))))]) ?_ ?_; (focus (first | (rw [show (x438007_26) = true by with_reducible assumption]) | (rw [show (x438007_26) = false by with_reducible assumption]) | rfl | (simp only [*]; done) | (simp [*]; done))); (with_reducible refine (host_Now.calls kj26 x438000_26 x438001_26 x438002_26 x438003_26 x438004_26 x438005_26 x438006_26 x438007_26 x438008_26 x438009_26 x438010_26 x438011_26 x438012_26 (wrap64 (x10_2 + (wrap64 ((rd_T151 l2 x13_2).f0)))) t460 t461 (some q463) _ A54.out).mono ?_); rintro e w67 ⟨rfl, hb⟩; have n0_ := qS (qB (g := gb414) (o := .cells #[.int .i16 a1_0, .int .i16 a1_1, .int .i16 a1_2] 144 (0, 0)) (qW BK414.out) hb); have n1_ := qS (qB (g := gb422) (o := .cells #[.int .u32 t415, .int .i64 t416, .int .i64 t417, .int .i64 (Go.bits .and .i64 (wrap64 (a1_0)) 1023), .int .i64 (Go.bits .and .i64 (wrap64 (a1_1)) 1023), .int .i64 (Go.bits .and .i64 (wrap64 (a1_2)) 32767), .int .i64 t421] 134 (0, 0)) (qW BK422.out) hb); have n2_ := qS (qB (g := gb437) (o := .cells #[.int .u32 x438000_26, .int .i64 x438001_26, .int .i64 x438002_26, .int .i64 x438003_26, .int .i64 x438004_26, .int .i64 x438005_26, .int .i64 x438006_26, .bool x438007_26, .int .i64 x438008_26, .int .i64 x438009_26, .int .i64 x438010_26, .int .i64 x438011_26, .int .i64 x438012_26] 137 (0, 0)) (qW BK437.out) hb); have n3_ := qS (qB (g := gb443) (o := .cells #[.int .u32 ((rd_T151 l2 x13_2).f0), .int .i16 ((rd_T151 l2 x13_2).f1), .bool ((rd_T151 l2 x13_2).f2), .int .u16 ((rd_T151 l2 x13_2).f3), .int .u16 ((rd_T151 l2 x13_2).f4)] 151 (0, 0)) (qW BK443.out) hb); have n4_ := qS (below_step (bW4 HB.out GE414.out GE422.out GE437.out GE443.out) hb); clear BK414; clear BK422; clear BK437; clear BK443; clear HB; have BK414 := n0_; have BK422 := n1_; have BK437 := n2_; have BK443 := n3_; have HB := n4_; clear n0_ n1_ n2_ n3_ n4_; (try clear hb); (try clear hb2); (try clear hk); (try clear hi); (try simp only [errW_none, errW_some])))
           (try simp only [Act.put, List.setIfInBounds_toArray, List.set_cons_zero, List.set_cons_succ])
           go_cut [140] (fun v140 wc => ∃ (kq : Nat) (x140_61 : Bool), v140 = .bool x140_61 ∧ Aside0 (fuseelaw18_HostHolds.j3 kq l2 (wrap64 (x10_2 + (wrap64 ((rd_T151 l2 x13_2).f0)))) x11_26 x12_26 x13_2 x140_61 x438000_26 x438001_26 x438002_26 x438003_26 x438004_26 x438005_26 x438006_26 x438007_26 x438008_26 x438009_26 x438010_26 x438011_26 x438012_26 = some r) ∧ Aside0 (kq ≤ kj26) ∧ Aside0 (wc.heap[gb414]? = some (.cells #[.int .i16 a1_0, .int .i16 a1_1, .int .i16 a1_2] 144 (0, 0))) ∧ Aside0 (wc.heap[gb422]? = some (.cells #[.int .u32 t415, .int .i64 t416, .int .i64 t417, .int .i64 (Go.bits .and .i64 (wrap64 (a1_0)) 1023), .int .i64 (Go.bits .and .i64 (wrap64 (a1_1)) 1023), .int .i64 (Go.bits .and .i64 (wrap64 (a1_2)) 32767), .int .i64 t421] 134 (0, 0))) ∧ Aside0 (wc.heap[gb437]? = some (.cells #[.int .u32 x438000_26, .int .i64 x438001_26, .int .i64 x438002_26, .int .i64 x438003_26, .int .i64 x438004_26, .int .i64 x438005_26, .int .i64 x438006_26, .bool x438007_26, .int .i64 x438008_26, .int .i64 x438009_26, .int .i64 x438010_26, .int .i64 x438011_26, .int .i64 x438012_26] 137 (0, 0))) ∧ Aside0 (wc.heap[gb443]? = some (.cells #[.int .u32 ((rd_T151 l2 x13_2).f0), .int .i16 ((rd_T151 l2 x13_2).f1), .bool ((rd_T151 l2 x13_2).f2), .int .u16 ((rd_T151 l2 x13_2).f3), .int .u16 ((rd_T151 l2 x13_2).f4)] 151 (0, 0))) ∧ Aside0 (Below w.heap.size w wc))
           case first =>
            have H := HC62.out
            clear HC62
            replace H := Option.bind_eq_some_iff.mp H
            obtain ⟨t464, A680, H⟩ := H
            replace H : (if t464 = 13 then (if x438007_26 = true then (fuseelaw18_HostHolds.j3 kj26 l2 (wrap64 (x10_2 + (wrap64 ((rd_T151 l2 x13_2).f0)))) x11_26 x12_26 x13_2 (t461 != 0) x438000_26 x438001_26 x438002_26 x438003_26 x438004_26 x438005_26 x438006_26 x438007_26 x438008_26 x438009_26 x438010_26 x438011_26 x438012_26) else (fuseelaw18_HostHolds.j3 kj26 l2 (wrap64 (x10_2 + (wrap64 ((rd_T151 l2 x13_2).f0)))) x11_26 x12_26 x13_2 false x438000_26 x438001_26 x438002_26 x438003_26 x438004_26 x438005_26 x438006_26 x438007_26 x438008_26 x438009_26 x438010_26 x438011_26 x438012_26)) else (fuseelaw18_HostHolds.j3 kj26 l2 (wrap64 (x10_2 + (wrap64 ((rd_T151 l2 x13_2).f0)))) x11_26 x12_26 x13_2 true x438000_26 x438001_26 x438002_26 x438003_26 x438004_26 x438005_26 x438006_26 x438007_26 x438008_26 x438009_26 x438010_26 x438011_26 x438012_26)) = some r := H
            have A68 := qS A680
            clear A680
            by_cases c69 : t464 = 13
            ·rw [if_pos c69] at H
             have c69b0 : (t464 == 13) = true := beq_iff_eq.mpr c69
             have c69b1 : (t464 != 13) = false := bne_eq_false_iff_eq.mpr c69
             clear c69
             (first | rw [c69b0] | (simp only [i64_w, i32_w]; rw [c69b0]) | skip)
             by_cases c70 : x438007_26 = true
             ·subst c70
              have H1 : (fuseelaw18_HostHolds.j3 kj26 l2 (wrap64 (x10_2 + (wrap64 ((rd_T151 l2 x13_2).f0)))) x11_26 x12_26 x13_2 (t461 != 0) x438000_26 x438001_26 x438002_26 x438003_26 x438004_26 x438005_26 x438006_26 true x438008_26 x438009_26 x438010_26 x438011_26 x438012_26) = some r := by rw [if_pos rfl] at H; exact H
              clear H
              have H := H1
              clear H1
              as_aux_lemma =>
               have H' := qS H
               clear H
               have CA68 := fun W (hgW : HG W) => fuseelaw18_num.calls (some q463) t464 W hgW A68.out
               try simp only [errW_none, errW_some] at CA68
               go_wp2_with (first | (go_at_call 61; (with_reducible refine (CA68 _ (HG.below hgL (Nat.le_refl _) (bW4 HB.out GE414.out GE422.out GE437.out GE443.out))).mono ?_); rintro e w71 ⟨rfl, hb⟩; have n0_ := qS (qB (g := gb414) (o := .cells #[.int .i16 a1_0, .int .i16 a1_1, .int .i16 a1_2] 144 (0, 0)) (qW BK414.out) hb); have n1_ := qS (qB (g := gb422) (o := .cells #[.int .u32 t415, .int .i64 t416, .int .i64 t417, .int .i64 (Go.bits .and .i64 (wrap64 (a1_0)) 1023), .int .i64 (Go.bits .and .i64 (wrap64 (a1_1)) 1023), .int .i64 (Go.bits .and .i64 (wrap64 (a1_2)) 32767), .int .i64 t421] 134 (0, 0)) (qW BK422.out) hb); have n2_ := qS (qB (g := gb437) (o := .cells #[.int .u32 x438000_26, .int .i64 x438001_26, .int .i64 x438002_26, .int .i64 x438003_26, .int .i64 x438004_26, .int .i64 x438005_26, .int .i64 x438006_26, .bool true, .int .i64 x438008_26, .int .i64 x438009_26, .int .i64 x438010_26, .int .i64 x438011_26, .int .i64 x438012_26] 137 (0, 0)) (qW BK437.out) hb); have n3_ := qS (qB (g := gb443) (o := .cells #[.int .u32 ((rd_T151 l2 x13_2).f0), .int .i16 ((rd_T151 l2 x13_2).f1), .bool ((rd_T151 l2 x13_2).f2), .int .u16 ((rd_T151 l2 x13_2).f3), .int .u16 ((rd_T151 l2 x13_2).f4)] 151 (0, 0)) (qW BK443.out) hb); have n4_ := qS (below_step (bW4 HB.out GE414.out GE422.out GE437.out GE443.out) hb); clear BK414; clear BK422; clear BK437; clear BK443; clear HB; have BK414 := n0_; have BK422 := n1_; have BK437 := n2_; have BK443 := n3_; have HB := n4_; clear n0_ n1_ n2_ n3_ n4_; (try clear hb); (try clear hb2); (try clear hk); (try clear hi); have hnb72 := NB437_414.out; have hnc72 := NB414_437.out; have hnb73 := NB437_422.out; have hnc73 := NB422_437.out; have hnb74 := NB437_443.out; have hnc74 := NB443_437.out; have hcz75_0 : w71.cell? ⟨gb437, 0, none⟩ = some (.int .u32 x438000_26) := (qC BK437.out 0).trans rfl; have hcz75_1 : w71.cell? ⟨gb437, 1, none⟩ = some (.int .i64 x438001_26) := (qC BK437.out 1).trans rfl; have hcz75_2 : w71.cell? ⟨gb437, 2, none⟩ = some (.int .i64 x438002_26) := (qC BK437.out 2).trans rfl; have hcz75_3 : w71.cell? ⟨gb437, 3, none⟩ = some (.int .i64 x438003_26) := (qC BK437.out 3).trans rfl; have hcz75_4 : w71.cell? ⟨gb437, 4, none⟩ = some (.int .i64 x438004_26) := (qC BK437.out 4).trans rfl; have hcz75_5 : w71.cell? ⟨gb437, 5, none⟩ = some (.int .i64 x438005_26) := (qC BK437.out 5).trans rfl; have hcz75_6 : w71.cell? ⟨gb437, 6, none⟩ = some (.int .i64 x438006_26) := (qC BK437.out 6).trans rfl; have hcz75_7 : w71.cell? ⟨gb437, 7, none⟩ = some (.bool true) := (qC BK437.out 7).trans rfl; have hcz75_8 : w71.cell? ⟨gb437, 8, none⟩ = some (.int .i64 x438008_26) := (qC BK437.out 8).trans rfl; have hcz75_9 : w71.cell? ⟨gb437, 9, none⟩ = some (.int .i64 x438009_26) := (qC BK437.out 9).trans rfl; have hcz75_10 : w71.cell? ⟨gb437, 10, none⟩ = some (.int .i64 x438010_26) := (qC BK437.out 10).trans rfl; have hcz75_11 : w71.cell? ⟨gb437, 11, none⟩ = some (.int .i64 x438011_26) := (qC BK437.out 11).trans rfl; have hcz75_12 : w71.cell? ⟨gb437, 12, none⟩ = some (.int .i64 x438012_26) := (qC BK437.out 12).trans rfl; have hfz75_0 := qF BK437.out 0; have hfz75_1 := qF BK437.out 1; have hfz75_2 := qF BK437.out 2; have hfz75_3 := qF BK437.out 3; have hfz75_4 := qF BK437.out 4; have hfz75_5 := qF BK437.out 5; have hfz75_6 := qF BK437.out 6; have hfz75_7 := qF BK437.out 7; have hfz75_8 := qF BK437.out 8; have hfz75_9 := qF BK437.out 9; have hfz75_10 := qF BK437.out 10; have hfz75_11 := qF BK437.out 11; have hfz75_12 := qF BK437.out 12))
               go_meet
               case rel => exact ⟨_, ((t461 != 0)), (by first | rfl | (simp; done) | (simp [*]; done)), H', ⟨by have := HJ5.out; have := HK2.out; have := HJ26.out; first | omega | exact Nat.le_refl _⟩, ⟨by (with_reducible repeat (first | refine qN ?_ _ | refine qD ?_ | refine qA ?_ _)); exact BK414.out⟩, ⟨by (with_reducible repeat (first | refine qN ?_ _ | refine qD ?_ | refine qA ?_ _)); exact BK422.out⟩, ⟨by (with_reducible repeat (first | refine qN ?_ _ | refine qD ?_ | refine qA ?_ _)); exact BK437.out⟩, ⟨by (with_reducible repeat (first | refine qN ?_ _ | refine qD ?_ | refine qA ?_ _)); exact BK443.out⟩, ⟨by repeat (first | (with_reducible first | exact HB.out | apply qpA | apply qpN | apply qp1 | refine qpS ?_ GE414.out | refine qpS ?_ GE422.out | refine qpS ?_ GE437.out | refine qpS ?_ GE443.out) | exact HB.out)⟩⟩
             ·replace c70 := Bool.eq_false_iff.mpr c70
              subst c70
              have H1 : (fuseelaw18_HostHolds.j3 kj26 l2 (wrap64 (x10_2 + (wrap64 ((rd_T151 l2 x13_2).f0)))) x11_26 x12_26 x13_2 false x438000_26 x438001_26 x438002_26 x438003_26 x438004_26 x438005_26 x438006_26 false x438008_26 x438009_26 x438010_26 x438011_26 x438012_26) = some r := by rw [if_neg (show ¬ (false = true) by decide)] at H; exact H
              clear H
              have H := H1
              clear H1
              as_aux_lemma =>
               have H' := qS H
               clear H
               have CA68 := fun W (hgW : HG W) => fuseelaw18_num.calls (some q463) t464 W hgW A68.out
               try simp only [errW_none, errW_some] at CA68
               go_wp2_with (first | (go_at_call 61; (with_reducible refine (CA68 _ (HG.below hgL (Nat.le_refl _) (bW4 HB.out GE414.out GE422.out GE437.out GE443.out))).mono ?_); rintro e w76 ⟨rfl, hb⟩; have n0_ := qS (qB (g := gb414) (o := .cells #[.int .i16 a1_0, .int .i16 a1_1, .int .i16 a1_2] 144 (0, 0)) (qW BK414.out) hb); have n1_ := qS (qB (g := gb422) (o := .cells #[.int .u32 t415, .int .i64 t416, .int .i64 t417, .int .i64 (Go.bits .and .i64 (wrap64 (a1_0)) 1023), .int .i64 (Go.bits .and .i64 (wrap64 (a1_1)) 1023), .int .i64 (Go.bits .and .i64 (wrap64 (a1_2)) 32767), .int .i64 t421] 134 (0, 0)) (qW BK422.out) hb); have n2_ := qS (qB (g := gb437) (o := .cells #[.int .u32 x438000_26, .int .i64 x438001_26, .int .i64 x438002_26, .int .i64 x438003_26, .int .i64 x438004_26, .int .i64 x438005_26, .int .i64 x438006_26, .bool false, .int .i64 x438008_26, .int .i64 x438009_26, .int .i64 x438010_26, .int .i64 x438011_26, .int .i64 x438012_26] 137 (0, 0)) (qW BK437.out) hb); have n3_ := qS (qB (g := gb443) (o := .cells #[.int .u32 ((rd_T151 l2 x13_2).f0), .int .i16 ((rd_T151 l2 x13_2).f1), .bool ((rd_T151 l2 x13_2).f2), .int .u16 ((rd_T151 l2 x13_2).f3), .int .u16 ((rd_T151 l2 x13_2).f4)] 151 (0, 0)) (qW BK443.out) hb); have n4_ := qS (below_step (bW4 HB.out GE414.out GE422.out GE437.out GE443.out) hb); clear BK414; clear BK422; clear BK437; clear BK443; clear HB; have BK414 := n0_; have BK422 := n1_; have BK437 := n2_; have BK443 := n3_; have HB := n4_; clear n0_ n1_ n2_ n3_ n4_; (try clear hb); (try clear hb2); (try clear hk); (try clear hi); have hnb77 := NB437_414.out; have hnc77 := NB414_437.out; have hnb78 := NB437_422.out; have hnc78 := NB422_437.out; have hnb79 := NB437_443.out; have hnc79 := NB443_437.out; have hcz80_0 : w76.cell? ⟨gb437, 0, none⟩ = some (.int .u32 x438000_26) := (qC BK437.out 0).trans rfl; have hcz80_1 : w76.cell? ⟨gb437, 1, none⟩ = some (.int .i64 x438001_26) := (qC BK437.out 1).trans rfl; have hcz80_2 : w76.cell? ⟨gb437, 2, none⟩ = some (.int .i64 x438002_26) := (qC BK437.out 2).trans rfl; have hcz80_3 : w76.cell? ⟨gb437, 3, none⟩ = some (.int .i64 x438003_26) := (qC BK437.out 3).trans rfl; have hcz80_4 : w76.cell? ⟨gb437, 4, none⟩ = some (.int .i64 x438004_26) := (qC BK437.out 4).trans rfl; have hcz80_5 : w76.cell? ⟨gb437, 5, none⟩ = some (.int .i64 x438005_26) := (qC BK437.out 5).trans rfl; have hcz80_6 : w76.cell? ⟨gb437, 6, none⟩ = some (.int .i64 x438006_26) := (qC BK437.out 6).trans rfl; have hcz80_7 : w76.cell? ⟨gb437, 7, none⟩ = some (.bool false) := (qC BK437.out 7).trans rfl; have hcz80_8 : w76.cell? ⟨gb437, 8, none⟩ = some (.int .i64 x438008_26) := (qC BK437.out 8).trans rfl; have hcz80_9 : w76.cell? ⟨gb437, 9, none⟩ = some (.int .i64 x438009_26) := (qC BK437.out 9).trans rfl; have hcz80_10 : w76.cell? ⟨gb437, 10, none⟩ = some (.int .i64 x438010_26) := (qC BK437.out 10).trans rfl; have hcz80_11 : w76.cell? ⟨gb437, 11, none⟩ = some (.int .i64 x438011_26) := (qC BK437.out 11).trans rfl; have hcz80_12 : w76.cell? ⟨gb437, 12, none⟩ = some (.int .i64 x438012_26) := (qC BK437.out 12).trans rfl; have hfz80_0 := qF BK437.out 0; have hfz80_1 := qF BK437.out 1; have hfz80_2 := qF BK437.out 2; have hfz80_3 := qF BK437.out 3; have hfz80_4 := qF BK437.out 4; have hfz80_5 := qF BK437.out 5; have hfz80_6 := qF BK437.out 6; have hfz80_7 := qF BK437.out 7; have hfz80_8 := qF BK437.out 8; have hfz80_9 := qF BK437.out 9; have hfz80_10 := qF BK437.out 10; have hfz80_11 := qF BK437.out 11; have hfz80_12 := qF BK437.out 12))
               go_meet
               case rel => exact ⟨_, (false), (by first | rfl | (simp; done) | (simp [*]; done)), H', ⟨by have := HJ5.out; have := HK2.out; have := HJ26.out; first | omega | exact Nat.le_refl _⟩, ⟨by (with_reducible repeat (first | refine qN ?_ _ | refine qD ?_ | refine qA ?_ _)); exact BK414.out⟩, ⟨by (with_reducible repeat (first | refine qN ?_ _ | refine qD ?_ | refine qA ?_ _)); exact BK422.out⟩, ⟨by (with_reducible repeat (first | refine qN ?_ _ | refine qD ?_ | refine qA ?_ _)); exact BK437.out⟩, ⟨by (with_reducible repeat (first | refine qN ?_ _ | refine qD ?_ | refine qA ?_ _)); exact BK443.out⟩, ⟨by repeat (first | (with_reducible first | exact HB.out | apply qpA | apply qpN | apply qp1 | refine qpS ?_ GE414.out | refine qpS ?_ GE422.out | refine qpS ?_ GE437.out | refine qpS ?_ GE443.out) | exact HB.out)⟩⟩
            ·rw [if_neg c69] at H
             have c69b0 : (t464 == 13) = false := beq_eq_false_iff_ne.mpr c69
             have c69b1 : (t464 != 13) = true := bne_iff_ne.mpr c69
             (first | rw [c69b0] | (simp only [i64_w, i32_w]; rw [c69b0]) | skip)
             as_aux_lemma =>
              have H' := qS H
              clear H
              have CA68 := fun W (hgW : HG W) => fuseelaw18_num.calls (some q463) t464 W hgW A68.out
              try simp only [errW_none, errW_some] at CA68
              go_wp2_with (first | (go_at_call 61; (with_reducible refine (CA68 _ (HG.below hgL (Nat.le_refl _) (bW4 HB.out GE414.out GE422.out GE437.out GE443.out))).mono ?_); rintro e w81 ⟨rfl, hb⟩; have n0_ := qS (qB (g := gb414) (o := .cells #[.int .i16 a1_0, .int .i16 a1_1, .int .i16 a1_2] 144 (0, 0)) (qW BK414.out) hb); have n1_ := qS (qB (g := gb422) (o := .cells #[.int .u32 t415, .int .i64 t416, .int .i64 t417, .int .i64 (Go.bits .and .i64 (wrap64 (a1_0)) 1023), .int .i64 (Go.bits .and .i64 (wrap64 (a1_1)) 1023), .int .i64 (Go.bits .and .i64 (wrap64 (a1_2)) 32767), .int .i64 t421] 134 (0, 0)) (qW BK422.out) hb); have n2_ := qS (qB (g := gb437) (o := .cells #[.int .u32 x438000_26, .int .i64 x438001_26, .int .i64 x438002_26, .int .i64 x438003_26, .int .i64 x438004_26, .int .i64 x438005_26, .int .i64 x438006_26, .bool x438007_26, .int .i64 x438008_26, .int .i64 x438009_26, .int .i64 x438010_26, .int .i64 x438011_26, .int .i64 x438012_26] 137 (0, 0)) (qW BK437.out) hb); have n3_ := qS (qB (g := gb443) (o := .cells #[.int .u32 ((rd_T151 l2 x13_2).f0), .int .i16 ((rd_T151 l2 x13_2).f1), .bool ((rd_T151 l2 x13_2).f2), .int .u16 ((rd_T151 l2 x13_2).f3), .int .u16 ((rd_T151 l2 x13_2).f4)] 151 (0, 0)) (qW BK443.out) hb); have n4_ := qS (below_step (bW4 HB.out GE414.out GE422.out GE437.out GE443.out) hb); clear BK414; clear BK422; clear BK437; clear BK443; clear HB; have BK414 := n0_; have BK422 := n1_; have BK437 := n2_; have BK443 := n3_; have HB := n4_; clear n0_ n1_ n2_ n3_ n4_; (try clear hb); (try clear hb2); (try clear hk); (try clear hi)))
              go_meet
              case rel => exact ⟨_, (true), (by first | rfl | (simp; done) | (simp [*]; done)), H', ⟨by have := HJ5.out; have := HK2.out; have := HJ26.out; first | omega | exact Nat.le_refl _⟩, ⟨by (with_reducible repeat (first | refine qN ?_ _ | refine qD ?_ | refine qA ?_ _)); exact BK414.out⟩, ⟨by (with_reducible repeat (first | refine qN ?_ _ | refine qD ?_ | refine qA ?_ _)); exact BK422.out⟩, ⟨by (with_reducible repeat (first | refine qN ?_ _ | refine qD ?_ | refine qA ?_ _)); exact BK437.out⟩, ⟨by (with_reducible repeat (first | refine qN ?_ _ | refine qD ?_ | refine qA ?_ _)); exact BK443.out⟩, ⟨by repeat (first | (with_reducible first | exact HB.out | apply qpA | apply qpN | apply qp1 | refine qpS ?_ GE414.out | refine qpS ?_ GE422.out | refine qpS ?_ GE437.out | refine qpS ?_ GE443.out) | exact HB.out)⟩⟩
           case rest =>
            clear HC62
            try clear c1
            try clear c2
            try clear p2
            try clear c3
            try clear q3
            try clear c4
            try clear p4
            try clear q4
            try clear hx4
            try clear c5
            try clear c6
            try clear p6
            try clear c7
            try clear c11
            try clear c15
            try clear c20
            try clear c20b0
            try clear c21
            try clear c21b0
            try clear c22
            try clear c25
            try clear c25b0
            try clear c26
            try clear c26b0
            try clear c29
            try clear c30
            try clear c31
            try clear q36
            try clear c37
            try clear c39
            try clear c40
            try clear c41
            try clear q43
            try clear c44
            try clear p44
            try clear q44
            try clear hx44
            try clear c45
            try clear q45
            try clear c46
            try clear q46
            try clear c47
            try clear c49
            try clear c50
            try clear c55
            try clear c55b0
            try clear c56
            try clear c56b0
            try clear c57
            try clear c58
            try clear c59
            try clear c63
            try clear c64
            try clear p64
            try clear c65
            try clear c69
            try clear c69b0
            try clear c69b1
            try clear c70
            try clear c72
            try clear c73
            try clear c74
            try clear c77
            try clear c78
            try clear c79
            try clear hcz16_0
            try clear hcz16_1
            try clear hcz16_2
            try clear hcz16_3
            try clear hcz16_4
            try clear hcz16_5
            try clear hcz16_6
            try clear hcz32_0
            try clear hcz32_1
            try clear hcz32_2
            try clear hcz32_3
            try clear hcz32_4
            try clear hcz35_0
            try clear hcz35_1
            try clear hcz35_2
            try clear hcz35_3
            try clear hcz35_4
            try clear hcz42_0
            try clear hcz42_1
            try clear hcz42_2
            try clear hcz42_3
            try clear hcz42_4
            try clear hcz48_0
            try clear hcz48_1
            try clear hcz51_0
            try clear hcz51_1
            try clear hcz51_10
            try clear hcz51_11
            try clear hcz51_12
            try clear hcz51_2
            try clear hcz51_3
            try clear hcz51_4
            try clear hcz51_5
            try clear hcz51_6
            try clear hcz51_7
            try clear hcz51_8
            try clear hcz51_9
            try clear hcz60_0
            try clear hcz60_1
            try clear hcz60_10
            try clear hcz60_11
            try clear hcz60_12
            try clear hcz60_2
            try clear hcz60_3
            try clear hcz60_4
            try clear hcz60_5
            try clear hcz60_6
            try clear hcz60_7
            try clear hcz60_8
            try clear hcz60_9
            try clear hcz66_0
            try clear hcz66_1
            try clear hcz66_10
            try clear hcz66_11
            try clear hcz66_12
            try clear hcz66_2
            try clear hcz66_3
            try clear hcz66_4
            try clear hcz66_5
            try clear hcz66_6
            try clear hcz66_7
            try clear hcz66_8
            try clear hcz66_9
            try clear hcz75_0
            try clear hcz75_1
            try clear hcz75_10
            try clear hcz75_11
            try clear hcz75_12
            try clear hcz75_2
            try clear hcz75_3
            try clear hcz75_4
            try clear hcz75_5
            try clear hcz75_6
            try clear hcz75_7
            try clear hcz75_8
            try clear hcz75_9
            try clear hcz80_0
            try clear hcz80_1
            try clear hcz80_10
            try clear hcz80_11
            try clear hcz80_12
            try clear hcz80_2
            try clear hcz80_3
            try clear hcz80_4
            try clear hcz80_5
            try clear hcz80_6
            try clear hcz80_7
            try clear hcz80_8
            try clear hcz80_9
            try clear hfz16_0
            try clear hfz16_1
            try clear hfz16_2
            try clear hfz16_3
            try clear hfz16_4
            try clear hfz16_5
            try clear hfz16_6
            try clear hfz32_0
            try clear hfz32_1
            try clear hfz32_2
            try clear hfz32_3
            try clear hfz32_4
            try clear hfz35_0
            try clear hfz35_1
            try clear hfz35_2
            try clear hfz35_3
            try clear hfz35_4
            try clear hfz42_0
            try clear hfz42_1
            try clear hfz42_2
            try clear hfz42_3
            try clear hfz42_4
            try clear hfz48_0
            try clear hfz48_1
            try clear hfz51_0
            try clear hfz51_1
            try clear hfz51_10
            try clear hfz51_11
            try clear hfz51_12
            try clear hfz51_2
            try clear hfz51_3
            try clear hfz51_4
            try clear hfz51_5
            try clear hfz51_6
            try clear hfz51_7
            try clear hfz51_8
            try clear hfz51_9
            try clear hfz60_0
            try clear hfz60_1
            try clear hfz60_10
            try clear hfz60_11
            try clear hfz60_12
            try clear hfz60_2
            try clear hfz60_3
            try clear hfz60_4
            try clear hfz60_5
            try clear hfz60_6
            try clear hfz60_7
            try clear hfz60_8
            try clear hfz60_9
            try clear hfz66_0
            try clear hfz66_1
            try clear hfz66_10
            try clear hfz66_11
            try clear hfz66_12
            try clear hfz66_2
            try clear hfz66_3
            try clear hfz66_4
            try clear hfz66_5
            try clear hfz66_6
            try clear hfz66_7
            try clear hfz66_8
            try clear hfz66_9
            try clear hfz75_0
            try clear hfz75_1
            try clear hfz75_10
            try clear hfz75_11
            try clear hfz75_12
            try clear hfz75_2
            try clear hfz75_3
            try clear hfz75_4
            try clear hfz75_5
            try clear hfz75_6
            try clear hfz75_7
            try clear hfz75_8
            try clear hfz75_9
            try clear hfz80_0
            try clear hfz80_1
            try clear hfz80_10
            try clear hfz80_11
            try clear hfz80_12
            try clear hfz80_2
            try clear hfz80_3
            try clear hfz80_4
            try clear hfz80_5
            try clear hfz80_6
            try clear hfz80_7
            try clear hfz80_8
            try clear hfz80_9
            try clear hx442_0
            try clear hx442_1
            try clear hx442_2
            try clear hx442_3
            try clear hx442_4
            try clear p2
            try clear p4
            try clear p44
            try clear p442
            try clear p6
            try clear q3
            try clear q36
            try clear q4
            try clear q43
            try clear q438
            try clear q439
            try clear q44
            try clear q442
            try clear q45
            try clear q459
            try clear q463
            obtain ⟨kq, x140_61, rfl, HA, HJ61, BK414, BK422, BK437, BK443, HB⟩ := hcut
            cases kq with
            | zero => exact absurd HA.out (by simp [fuseelaw18_HostHolds.j3])
            | succ kj61 =>
             have H := HA.out
             clear HA
             simp only [fuseelaw18_HostHolds.j3] at H
             by_cases c82 : x140_61 = true
             ·subst c82
              have H1 : (none) = some r := by rw [if_pos rfl] at H; exact H
              clear H
              have H := H1
              clear H1
              exact absurd H (by simp)
             ·replace c82 := Bool.eq_false_iff.mpr c82
              subst c82
              have H1 : (fuseelaw18_HostHolds.l0 kj61 l2 (wrap64 (x10_2 + (wrap64 ((rd_T151 l2 x13_2).f0)))) x11_26 x12_26 (wrap64 (x13_2 + 1)) x438000_26 x438001_26 x438002_26 x438003_26 x438004_26 x438005_26 x438006_26 x438007_26 x438008_26 x438009_26 x438010_26 x438011_26 x438012_26) = some r := by rw [if_neg (show ¬ (false = true) by decide)] at H; exact H
              clear H
              have H := H1
              clear H1
              as_aux_lemma =>
               have H' := qS H
               clear H
               go_wp2
               go_roundg kj61
               case measure => have := HJ5.out; have := HK2.out; have := HJ26.out; have := HJ61.out; omega
               case rel => exact ⟨((wrap64 (x10_2 + (wrap64 ((rd_T151 l2 x13_2).f0))))), (x11_26), (x12_26), (wrap64 (x13_2 + 1)), (x438000_26), (x438001_26), (x438002_26), (x438003_26), (x438004_26), (x438005_26), (x438006_26), (x438007_26), (x438008_26), (x438009_26), (x438010_26), (x438011_26), (x438012_26), (by first | rfl | (simp; done) | (simp [*]; done)), (by first | rfl | (simp; done) | (simp [*]; done)), (by first | rfl | (simp; done) | (simp [*]; done)), (by first | rfl | (simp; done) | (simp [*]; done)), H', ⟨by have := HJ5.out; have := HK2.out; have := HJ26.out; have := HJ61.out; omega⟩, ⟨by (with_reducible repeat (first | refine qN ?_ _ | refine qD ?_ | refine qA ?_ _)); exact BK414.out⟩, ⟨by (with_reducible repeat (first | refine qN ?_ _ | refine qD ?_ | refine qA ?_ _)); exact BK422.out⟩, ⟨by (with_reducible repeat (first | refine qN ?_ _ | refine qD ?_ | refine qA ?_ _)); exact BK437.out⟩, ⟨by repeat (first | (with_reducible first | exact HB.out | apply qpA | apply qpN | apply qp1 | refine qpS ?_ GE414.out | refine qpS ?_ GE422.out | refine qpS ?_ GE437.out | refine qpS ?_ GE443.out) | exact HB.out)⟩⟩
       ·rw [if_neg c26] at H
        exact absurd H (by simp)
      ·rw [if_neg c25] at H
       have c25b0 : decide (x13_2 < (l2.length : Int)) = false := decide_eq_false c25
       clear c25
       replace H := Option.bind_eq_some_iff.mp H
       obtain ⟨t441, A830, H⟩ := H
       replace H : (some t441) = some r := H
       have A83 := qS A830
       clear A830
       as_aux_lemma =>
        obtain rfl := Option.some.inj H
        go_wp2_with (first | ((with_reducible refine gate_callee (f := 59) rfl ?_); refine goesL_ (some 153) rfl rfl Tryd.func59 (by kernel_rfl) rfl #[] rfl (by (try simp only [List.map_toArray, List.map_cons, List.map_nil]); first | done | rfl | (simp only [*]; done) | (simp only [List.length_drop, List.length_take]; rfl) | (simp only [Act.eval, Array.getD_eq_getD_getElem?, Option.getD_some, *])) ?_; (with_reducible refine (fuseelaw18_sure.calls k2  t441 _ ?side1 A83.out).mono ?_); (case side1 => exact HG.below hgL (Nat.le_refl _) (bW3 HB.out GE414.out GE422.out GE437.out)); rintro e w84 ⟨rfl, hb⟩; refine ⟨_, rfl, ?_⟩; have n0_ := qS (qB (g := gb414) (o := .cells #[.int .i16 a1_0, .int .i16 a1_1, .int .i16 a1_2] 144 (0, 0)) (qW BK414.out) hb); have n1_ := qS (qB (g := gb422) (o := .cells #[.int .u32 t415, .int .i64 t416, .int .i64 t417, .int .i64 (Go.bits .and .i64 (wrap64 (a1_0)) 1023), .int .i64 (Go.bits .and .i64 (wrap64 (a1_1)) 1023), .int .i64 (Go.bits .and .i64 (wrap64 (a1_2)) 32767), .int .i64 t421] 134 (0, 0)) (qW BK422.out) hb); have n2_ := qS (qB (g := gb437) (o := .cells #[.int .u32 x438000_2, .int .i64 x438001_2, .int .i64 x438002_2, .int .i64 x438003_2, .int .i64 x438004_2, .int .i64 x438005_2, .int .i64 x438006_2, .bool x438007_2, .int .i64 x438008_2, .int .i64 x438009_2, .int .i64 x438010_2, .int .i64 x438011_2, .int .i64 x438012_2] 137 (0, 0)) (qW BK437.out) hb); have n3_ := qS (below_step (bW3 HB.out GE414.out GE422.out GE437.out) hb); clear BK414; clear BK422; clear BK437; clear HB; have BK414 := n0_; have BK422 := n1_; have BK437 := n2_; have HB := n3_; clear n0_ n1_ n2_ n3_; (try clear hb); (try clear hb2); (try clear hk); (try clear hi)))
        go_ret
        exact ⟨by first | rfl | (simp [errW_none, errW_some] <;> rfl) | (simp [*, errW_none, errW_some] <;> rfl), by repeat (first | (with_reducible first | exact HB.out | apply qpA | apply qpN | apply qp1 | refine qpS ?_ GE414.out | refine qpS ?_ GE422.out | refine qpS ?_ GE437.out) | exact HB.out)⟩

end Go.Proofs.YtcpbfckmngbgdaaDoor.MHostHolds
