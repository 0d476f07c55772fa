/- The framework, part P: slices of an element of a slice of rows. Conditions: none. -/
import Derived.Test.YtmiagmbgfhakgaaFwO
namespace Go.Proofs.Ytmiagmbgfhakgaa
set_option linter.unusedSimpArgs false
set_option linter.unusedVariables false

section
variable {P : Program} {fr : Nat → Value} {w : World} {ty T U E A : TypeId} {x y : Operand} {d : TypeDesc} {z : Option Value} {n kb k : Nat} {R : Rest} {H Hs : List (Nat × Obj)} {α : Type} {f : α → Value} {v : Value} {l : List α} {vs : List (List α)} {m : Nat → Option Obj}
/-- The slice of a whole element. -/
def elsl (v : Value) (i : Int) (k : Nat) : Value := match v with | .slice a _ _ => .slice (a.map (·.add (i.toNat * k))) k k | _ => undef
theorem Rd.elsl {i : Int} (h : RdK m (encA f) k v vs) (hi : i.toNat < vs.length) : Rd m f (Proofs.Ytmiagmbgfhakgaa.elsl v i k) (vs.getD i.toNat []) := by
  have eg : vs.getD i.toNat [] = vs[i.toNat] := by simp [List.getD_eq_getElem?_getD, hi]
  have hlen := h.len vs[i.toNat] (by simp)
  have hlen' : vs[i.toNat].length = k := by simpa [encA] using hlen
  obtain ⟨a, cap, rfl, hle, h4⟩ := h.is
  obtain ⟨b, o, c, E, fz, rfl, hb, hc⟩ := h4 i.toNat hi
  rw [eg]
  refine ⟨some ⟨b, o + i.toNat * k, none⟩, k, by simp [Proofs.Ytmiagmbgfhakgaa.elsl, add_none, hlen'], by omega, fun t ht => ?_⟩
  refine ⟨b, o + i.toNat * k, c, E, fz, rfl, hb, ?_⟩
  have := hc t (by omega)
  have e : o + i.toNat * k + t = o + (i.toNat * k + t) := by omega
  rw [e, this]
  simp [encA, ht]
theorem ev_slice_elk {i : Int} (h : RdK m (encA f) k v vs) (hi : i.toNat < vs.length) (hk : Nat.blt 0 k = true) (hu : P.underlying T = some (.array k E)) (hi' : tinf P E = some (z, 1, kb)) (hx : evalF fr x = elpK v i k 0) :
    EvQ P fr w (.slice T x none none none) ty (Proofs.Ytmiagmbgfhakgaa.elsl v i k) := by
  have h0 := Nat.le_of_ble_eq_true hk
  obtain ⟨a, cap, rfl, hle, h4⟩ := h.is
  obtain ⟨b, o, c, E, fz, rfl, hb, hc⟩ := h4 i.toNat hi
  have hx' : evalF fr x = ptr b (o + i.toNat * k) := by rw [hx]; simp [elpK, add_none, ptr]
  have := ev_slice_sla (w := w) (ty := ty) (i := 0) (j := (k : Int)) hu hi' hx' (optI_none _ _) (optI_none _ _) (by omega) (by omega) (by omega)
  have e : sla b (o + i.toNat * k) 1 0 (k : Int) k = Proofs.Ytmiagmbgfhakgaa.elsl (.slice (some ⟨b, o, none⟩) vs.length cap) i k := by
    have hk0 : ¬ k = 0 := by omega
    simp [sla, slc, Proofs.Ytmiagmbgfhakgaa.elsl, add_none, hk0]
  rw [← e]; exact this
end
end Go.Proofs.Ytmiagmbgfhakgaa
