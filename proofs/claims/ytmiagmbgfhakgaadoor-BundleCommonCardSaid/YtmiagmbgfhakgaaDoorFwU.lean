/- The framework, part U: slices of three rows. Conditions: none. -/
import Derived.Test.YtmiagmbgfhakgaaDoorFwS
namespace Go.Proofs.YtmiagmbgfhakgaaDoor
set_option linter.unusedSimpArgs false
set_option linter.unusedVariables false

section
variable {P : Program} {fr : Nat → Value} {w : World} {ty T E : TypeId} {x y z : Operand} {zv : Value} {n kb : Nat} {R : Rest} {H : List (Nat × Obj)} {α : Type} {f : α → Value} {a b c : List α} {m : Nat → Option Obj} {fz : Nat × Nat}
theorem or_build3 {A1 A2 A3 : List Value} (hm : Mem w R H) (hu : P.underlying T = some (.slice E)) (hi : tinf P E = some (some zv, n, kb)) (hs : Nat.ble (3 * n) 16777216 = true) (hz : (Array.range (3 * n)).map (zv.cells[· % zv.cells.size]!) = segs [A1, A2, A3]) (l1 : A1.length = n) (l2 : A2.length = n) (l3 : A3.length = n)
    (hx : evalF fr x = agg f a) (hy : evalF fr y = agg f b) (hq : evalF fr z = agg f c) (ha : a.length = n) (hb : b.length = n) (hc : c.length = n) :
    OpR P fr w (.buildSlice T 3 [(0, x), (1, y), (2, z)].toArray) ty (fun v w' => ∃ bl, v = slc bl 0 3 3 ∧ Ext w w' ∧ Mem w' R ((bl, .cells (segs [a.map f, b.map f, c.map f]) E) :: H)) := by
  refine or_buildSlice_p (pcs := [(0, (agg f a).cells), (1, (agg f b).cells), (2, (agg f c).cells)]) hm hu hi hs (by simp [hx, hy, hq]) ?_
  rw [hz, cells_agg1, cells_agg1, cells_agg1]
  refine fillA_segs (off := 0 * n) [] [A1] [a.map f] [A2, A3] rfl rfl (by simp) (by simpa using l1) (by simpa using ha) ?_
  refine fillA_segs (off := 1 * n) [a.map f] [A2] [b.map f] [A3] rfl rfl (by simp [ha]) (by simpa using l2) (by simpa using hb) ?_
  refine fillA_segs (off := 2 * n) [a.map f, b.map f] [A3] [c.map f] [] rfl rfl (by simp [ha, hb]; omega) (by simpa using l3) (by simpa using hc) ?_
  exact fillA_nil
theorem Grow.rdS {v : Value} {l : List α} {Hs : List (Nat × Obj)} (g : Grow f E v l Hs) : Rd (fun b => Hs.lookup b) f v l := by
  rcases g with ⟨⟨a, rfl⟩, rfl, rfl⟩ | ⟨b, pre, sp, post, rfl, rfl⟩
  · exact Rd.nil _ _
  · refine Rd.mk' (c := (pre ++ (l.map f ++ (sp ++ post))).toArray) (E := E) (fz := (0, 0)) (by omega) (by simp [List.lookup]) (fun i hi => ?_)
    simp only [List.getElem?_toArray]
    rw [List.getElem?_append_right (by omega), Nat.add_sub_cancel_left, List.getElem?_append_left (by simpa using hi)]
    simp [hi]
theorem RdK.segs3 {bl : Nat} (h : m bl = some (.cells (segs [a.map f, b.map f, c.map f]) E fz)) (ha : a.length = n) (hb : b.length = n) (hc : c.length = n) : RdK m (encA f) n (slc bl 0 3 3) [a, b, c] := by
  refine RdK.mk' (l := [a, b, c]) (by simp [encA, ha, hb, hc]) (Nat.le_refl _) h fun i hi q hq => ?_
  have hi3 : i < 3 := hi
  simp only [segs, List.getElem?_toArray, encA, Nat.zero_add, List.flatten_cons, List.flatten_nil, List.append_nil]
  have h012 : i = 0 ∨ i = 1 ∨ i = 2 := by omega
  rcases h012 with rfl | rfl | rfl
  · rw [Nat.zero_mul, Nat.zero_add, List.getElem?_append_left (by simp; omega)]; rfl
  · rw [Nat.one_mul, List.getElem?_append_right (by simp; omega), List.length_map, ha, Nat.add_sub_cancel_left, List.getElem?_append_left (by simp; omega)]; rfl
  · rw [List.getElem?_append_right (by simp; omega), List.length_map, ha, List.getElem?_append_right (by simp; omega), List.length_map, hb, show 2 * n + q - n - n = q by omega]; rfl
end
end Go.Proofs.YtmiagmbgfhakgaaDoor

