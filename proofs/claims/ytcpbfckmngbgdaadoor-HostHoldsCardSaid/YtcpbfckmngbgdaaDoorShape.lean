/-
  What an argument's cells are, by the shape of its type: whole numbers, bools, strings, structs and arrays of them, slices.
-/
import Derived.Test.YtcpbfckmngbgdaaDoorProg
import Derived.WalkKit
import Derived.ProofKit
import Derived.OpenShut
import Derived.Deep.Slices
namespace Go.Proofs.YtcpbfckmngbgdaaDoor
open Go.RowKit Go.ChangeShapes Go.WideShapes Go.Deep
set_option linter.unusedVariables false
set_option linter.unusedSimpArgs false

inductive Sh where
  | int (k : IntKind) | bool | str | nil | any
  | pair (a b : Sh)
  | slice (n : Nat) (s : Sh)
/-- these cells are of that shape -/
def Fits (w : World) : Sh → List Value → Prop
  | .int k, cs => ∃ n, cs = [.int k n] ∧ (Lit.int k n).wf = true
  | .bool, cs => ∃ b, cs = [.bool b]
  | .str, cs => ∃ s, cs = [.string s] ∧ s.size ≤ maxLen
  | .nil, cs => cs = []
  | .any, _ => True
  | .pair a b, cs => ∃ c1 c2, cs = c1 ++ c2 ∧ Fits w a c1 ∧ Fits w b c2
  | .slice n s, cs => cs = [.slice none 0 0] ∨ ∃ a len cap, cs = [.slice (some a) len cap] ∧ len ≤ cap ∧ cap ≤ maxLen ∧ ∀ i, i < cap → ∃ es, w.cells? 0 (a.add (i * n)) n = some es ∧ Fits w s es
def pairs (l : List Sh) : Sh := l.foldr .pair .nil
def tilesB (P : Program) : Nat → List Field → Nat → Bool
  | off, [], tot => off == tot
  | off, f :: fs, tot => f.offset == off && tilesB P (off + P.cellsOf f.type) fs tot
def shapeOf (P : Program) : Nat → TypeId → Sh
  | 0, _ => .any
  | f + 1, t => match P.underlying t with
    | some .bool => .bool
    | some (.int k) => .int k
    | some .string => .str
    | some (.slice e) => .slice (P.cellsOf e) (shapeOf P f e)
    | some (.struct fs) => if tilesB P 0 fs.toList (P.cellsOf t) = true then pairs (fs.toList.map fun x => shapeOf P f x.type) else .any
    | some (.array n e) => if P.cellsOf t = n * P.cellsOf e then pairs (List.replicate n (shapeOf P f e)) else .any
    | _ => .any
theorem fits_fields (P : Program) (w : World) (f : Nat) (cs : List Value) (tot : Nat) (hl : cs.length = tot) : ∀ (fs : List Field) (off : Nat),
    (∀ x ∈ fs, Fits w (shapeOf P f x.type) ((cs.drop x.offset).take (P.cellsOf x.type))) → tilesB P off fs tot = true → Fits w (pairs (fs.map fun x => shapeOf P f x.type)) (cs.drop off)
  | [], off, _, ht => by
    simp [tilesB] at ht
    show cs.drop off = []
    rw [List.drop_eq_nil_iff]; omega
  | x :: fs, off, h, ht => by
    simp only [tilesB, Bool.and_eq_true, beq_iff_eq] at ht
    have h1 := h x (List.mem_cons_self ..)
    have h2 := fits_fields P w f cs tot hl fs (off + P.cellsOf x.type) (fun y hy => h y (List.mem_cons_of_mem _ hy)) ht.2
    rw [ht.1] at h1
    exact ⟨_, _, by rw [← List.drop_drop]; exact (List.take_append_drop (P.cellsOf x.type) (cs.drop off)).symm, h1, h2⟩
theorem fits_elems (w : World) (s : Sh) (cs : List Value) (n c : Nat) (hl : cs.length = n * c) (h : ∀ j, j < n → Fits w s ((cs.drop (j * c)).take c)) : ∀ (m i : Nat), i + m = n → Fits w (pairs (List.replicate m s)) (cs.drop (i * c))
  | 0, i, e => by
    show cs.drop (i * c) = []
    rw [List.drop_eq_nil_iff, hl, ← e, Nat.add_zero]; exact Nat.le_refl _
  | m + 1, i, e => by
    have h1 := h i (by omega)
    have h2 := fits_elems w s cs n c hl h m (i + 1) (by omega)
    refine ⟨_, _, ?_, h1, h2⟩
    rw [Nat.succ_mul, ← List.drop_drop]; exact (List.take_append_drop c (cs.drop (i * c))).symm
theorem fits {H : Type} {enc : TypeId × Value → H} {P : Program} {w : World} {held : Bool} : ∀ (f : Nat) (t : TypeId) (g : Nat) (cs : List Value) (x : DataW H × List MemPlace),
    DataW.trod enc P w 0 (fun _ => true) held g t cs = some x → Fits w (shapeOf P f t) cs
  | 0, _, _, _, _, _ => trivial
  | f + 1, t, g, cs, x, h => by
    unfold shapeOf
    split
    · next hu => obtain ⟨b, hb, _⟩ := DataW.trod_bool hu h; exact ⟨b, hb⟩
    · next k hu => obtain ⟨n, hn, _, hw⟩ := DataW.trod_int hu h; exact ⟨n, hn, hw⟩
    · next hu => obtain ⟨s, hs, _, hw⟩ := DataW.trod_string hu h; exact ⟨s, hs, hw⟩
    · next e hu =>
      rcases open_slice hu h with ⟨h0, _⟩ | ⟨a, len, cap, m, n, D, Pl, h1, _, h3, h4, h5, _, h7⟩
      · exact .inl h0
      · refine .inr ⟨a, len, cap, h1, h3, h4, fun i hi => ?_⟩
        obtain ⟨es, e1, e2⟩ := h7 i (by rw [h5]; simpa using hi)
        exact ⟨es, e1, fits f e n es _ e2⟩
    · next fs hu =>
      split
      · next ht =>
        obtain ⟨xs, n, _, _, hl, hlen, hf⟩ := DataW.trod_struct hu h
        have := fits_fields P w f cs (P.cellsOf t) hl fs.toList 0 (fun y hy => by
          obtain ⟨i, hi, e⟩ := List.getElem_of_mem hy
          have hi' : i < fs.size := by simpa using hi
          have h2 := hf i y (by rw [Array.getElem?_eq_getElem hi', ← e]; simp)
          have hx : xs[i]? = some (xs[i]'(by omega)) := List.getElem?_eq_getElem (by omega)
          rw [hx] at h2
          exact fits f y.type n _ _ h2) ht
        simpa using this
      · trivial
    · next n e hu =>
      split
      · next hc =>
        obtain ⟨xs, m, _, _, hl, hlen, hf⟩ := DataW.trod_array hu h
        have := fits_elems w (shapeOf P f e) cs n (P.cellsOf e) (by rw [hl, hc]) (fun j hj => by
          have h2 := hf j hj
          have hx : xs[j]? = some (xs[j]'(by omega)) := List.getElem?_eq_getElem (by omega)
          rw [hx] at h2
          exact fits f e m _ _ h2) n 0 (by omega)
        simpa using this
      · trivial
    · trivial
theorem fits_of {H : Type} {enc : TypeId × Value → H} {P : Program} {w : World} {held : Bool} {t : TypeId} {v : Value} {d : DataW H} {ps : List MemPlace} (f : Nat) (h : DataW.Trod enc P w 0 (fun _ => true) held t v d ps) :
    Fits w (shapeOf P f t) v.cells.toList := by
  obtain ⟨g, hg⟩ := h; exact fits f t g _ _ hg
/-- a struct, an array: an aggregate -/
theorem agg_struct {P : Program} {w : World} {r : Reach} {b : Nat} {t : TypeId} {v : Value} {fs : Array Field} (ht : P.underlying t = some (.struct fs)) (h : Value.okWide P w r b t v) {l : List Value} (hl : v.cells.toList = l) : v = .agg l.toArray := by
  simp only [Value.okWide, ht] at h
  obtain ⟨cs, rfl, _⟩ := h
  subst hl; simp [Value.cells]
theorem agg_array {P : Program} {w : World} {r : Reach} {b : Nat} {t : TypeId} {v : Value} {n e : Nat} (ht : P.underlying t = some (.array n e)) (h : Value.okWide P w r b t v) {l : List Value} (hl : v.cells.toList = l) : v = .agg l.toArray := by
  simp only [Value.okWide, ht] at h
  obtain ⟨cs, rfl, _⟩ := h
  subst hl; simp [Value.cells]
end Go.Proofs.YtcpbfckmngbgdaaDoor
