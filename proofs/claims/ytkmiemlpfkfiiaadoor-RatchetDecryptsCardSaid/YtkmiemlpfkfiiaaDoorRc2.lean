/- The ratchet: openings of the laws' arguments. Conditions: none beyond those that each theorem states. -/
import Derived.Test.YtkmiemlpfkfiiaaDoorRc1
namespace Go.Proofs.YtkmiemlpfkfiiaaDoor
open Tryd
set_option linter.unusedVariables false
set_option linter.unusedSimpArgs false
open Go.ChangeShapes Go.WideShapes Go.ChangeAt Go.RowKit
section
variable {P : Program}
def SQ (w : World) : List (Field × Nat × (World → List Value → Prop)) → List Value → Prop
 | [], cs => cs = []
 | x :: L, cs => ∃ c r, cs = c ++ r ∧ x.2.2 w c ∧ SQ w L r
def OffOk (P : Program) : Nat → List (Field × Nat × (World → List Value → Prop)) → Prop
 | _, [] => True
 | off, x :: L => x.1.offset = off ∧ P.cellsOf x.1.type = x.2.1 ∧ Opens P x.1.type x.2.2 ∧ OffOk P (off + x.2.1) L
def totC : List (Field × Nat × (World → List Value → Prop)) → Nat
 | [] => 0
 | x :: L => x.2.1 + totC L
theorem sq_go {fs : Array Field} {cs : List Value} {w : World} (hc : ∀ (i : Nat) (f : Field) (C : World → List Value → Prop), fs[i]? = some f → Opens P f.type C → C w ((cs.drop f.offset).take (P.cellsOf f.type))) :
  ∀ (L : List (Field × Nat × (World → List Value → Prop))) (i off : Nat), (∀ j x, L[j]? = some x → fs[i + j]? = some x.1) → OffOk P off L → cs.length = off + totC L → SQ w L (cs.drop off)
 | [], i, off, _, _, hl => List.drop_of_length_le (by rw [hl]; exact Nat.le_refl _)
 | x :: L, i, off, hfs, ⟨ho, hk, hop, hr⟩, hl => by
  refine ⟨(cs.drop off).take x.2.1, cs.drop (off + x.2.1), ?_, ?_, ?_⟩
  ·rw [← List.drop_drop]; exact (List.take_append_drop _ _).symm
  ·have := hc i x.1 x.2.2 (hfs 0 x rfl) hop
   rw [ho, hk] at this; exact this
  refine sq_go hc L (i + 1) (off + x.2.1) (fun j y hy => ?_) hr (by rw [hl, totC]; omega)
  have := hfs (j + 1) y (by simpa using hy)
  rwa [show i + 1 + j = i + (j + 1) by omega]
theorem Qnn {t : TypeId} {fs : Array Field} (L : List (Field × Nat × (World → List Value → Prop))) (hu : P.underlying t = some (.struct fs)) (hL : L.map (·.1) = fs.toList) (hc : P.cellsOf t = totC L) (ho : OffOk P 0 L) : Opens P t (fun w cs => SQ w L cs) := by
 refine ⟨fun H en w fuel cs x h => ?_⟩
 obtain ⟨xs, m, _, _, hl, hlen, hf⟩ := DataW.trod_struct hu h
 have g : ∀ (i : Nat) (f : Field) (C : World → List Value → Prop), fs[i]? = some f → Opens P f.type C → C w ((cs.drop f.offset).take (P.cellsOf f.type)) := by
  intro i f C hi hop
  have h5 := hf i f hi
  have hi5 : i < fs.size := (Array.getElem?_eq_some_iff.1 hi).1
  rw [List.getElem?_eq_getElem (by rw [hlen]; exact hi5)] at h5
  exact hop.is H en w m _ _ h5
 have := sq_go g L 0 0 (fun j y hy => by
  rw [Nat.zero_add, ← Array.getElem?_toList, ← hL, List.getElem?_map, hy]; rfl) ho (by rw [hl, hc]; omega)
 rwa [List.drop_zero] at this
abbrev CA (n : Nat) : World → List Value → Prop := fun _ cs => ∃ l : Z8, cs = l.map u8 ∧ l.length = n
abbrev CI : World → List Value → Prop := fun _ cs => ∃ n : Int, cs = [i64 n] ∧ -9223372036854775808 ≤ n ∧ n ≤ 9223372036854775807
abbrev CB : World → List Value → Prop := fun _ cs => ∃ b, cs = [bl b]
abbrev CK : World → List Value → Prop := fun w cs => ∃ (v : Value) (l : List Kp), cs = [v] ∧ RdK (Y8 w) Y3 65 v l ∧ (∀ a ∈ l, True) ∧ l.length ≤ 9223372036854775807
end
set_option maxRecDepth 100000 in
theorem opens_kp : Opens prog 69 (fun _ cs => ∃ a : Kp, cs = Y3 a ∧ (Y3 a).length = 65 ∧ True) :=
 (Qnn [(_, 32, CA 32), (_, 1, CI), (_, 32, CA 32)] Qbk rfl Xo ⟨rfl, by kernel_rfl, (Aj (f := u8) Xl Xo Xo (Lp Vs)), ⟨rfl, by kernel_rfl, (Qdv Uu), ⟨rfl, by kernel_rfl, (Aj (f := u8) Xl Xo Xo (Lp Vs)), trivial⟩⟩⟩).mono (by
  rintro w cs ⟨_, _, rfl, ⟨c, rfl, hc⟩, _, _, rfl, ⟨n, rfl, _, _⟩, _, _, rfl, ⟨k, rfl, hk⟩, rfl⟩
  exact ⟨⟨c, n, k, hc, hk⟩, by simp [Y3], Qd3 _, trivial⟩)
set_option maxRecDepth 100000 in
theorem Qrw : Opens prog 26 (fun w cs => ∃ (ra wa oa : Z8) (sb tb : Bool) (sa ta : Z8) (n1 n2 n3 : Int) (vk : Value) (ks : List Kp), cs = ([ra.map u8, wa.map u8, oa.map u8, [bl sb], [bl tb], sa.map u8, ta.map u8, [i64 n1], [i64 n2], [i64 n3], [vk]] : List (List Value)).flatten ∧ (ra.length = 32 ∧ wa.length = 32 ∧ oa.length = 32 ∧ sa.length = 32 ∧ ta.length = 32) ∧ RdK (Y8 w) Y3 65 vk ks ∧ ks.length ≤ 9223372036854775807) :=
 (Qnn [(_, 32, CA 32), (_, 32, CA 32), (_, 32, CA 32), (_, 1, CB), (_, 1, CB), (_, 32, CA 32), (_, 32, CA 32), (_, 1, CI), (_, 1, CI), (_, 1, CI), (_, 1, CK)] Xt rfl Xo ⟨rfl, by kernel_rfl, (Aj (f := u8) Xl Xo Xo (Lp Vs)), ⟨rfl, by kernel_rfl, (Aj (f := u8) Xl Xo Xo (Lp Vs)), ⟨rfl, by kernel_rfl, (Aj (f := u8) Xl Xo Xo (Lp Vs)), ⟨rfl, by kernel_rfl, (Qjb uT4), ⟨rfl, by kernel_rfl, (Qjb uT4), ⟨rfl, by kernel_rfl, (Aj (f := u8) Xl Xo Xo (Lp Vs)), ⟨rfl, by kernel_rfl, (Aj (f := u8) Xl Xo Xo (Lp Vs)), ⟨rfl, by kernel_rfl, (Qdv Uu), ⟨rfl, by kernel_rfl, (Qdv Uu), ⟨rfl, by kernel_rfl, (Qdv Uu), ⟨rfl, by kernel_rfl, (Qrv (enc := Y3) (k := 65) (q := fun _ _ => True) rfl Wq Xo opens_kp), trivial⟩⟩⟩⟩⟩⟩⟩⟩⟩⟩⟩).mono (by
  rintro w cs ⟨_, _, rfl, ⟨ra, rfl, h1⟩, _, _, rfl, ⟨wa, rfl, h2⟩, _, _, rfl, ⟨oa, rfl, h3⟩, _, _, rfl, ⟨sb, rfl⟩, _, _, rfl, ⟨tb, rfl⟩, _, _, rfl, ⟨sa, rfl, h4⟩, _, _, rfl, ⟨ta, rfl, h5⟩, _, _, rfl, ⟨n1, rfl, _, _⟩, _, _, rfl, ⟨n2, rfl, _, _⟩, _, _, rfl, ⟨n3, rfl, _, _⟩, _, _, rfl, ⟨vk, ks, rfl, hk, _, hn⟩, rfl⟩
  exact ⟨ra, wa, oa, sb, tb, sa, ta, n1, n2, n3, vk, ks, by simp, ⟨h1, h2, h3, h4, h5⟩, hk, hn⟩)
set_option linter.constructorNameAsVariable false in
set_option maxRecDepth 100000 in
theorem arg_ses {W : World} {r : Reach} {b0 : Nat} {v : Value} {H : Type} {en : TypeId × Value → H} {d : DataW H} {ps : List MemPlace} (hval : Value.okWide prog W r b0 26 v) (h : DataW.Trod en prog W 0 (fun _ => true) true 26 v d ps) :
  ∃ (ra wa oa : Z8) (sb tb : Bool) (sa ta : Z8) (n1 n2 n3 : Int) (vk : Value) (ks : List Kp), v = .agg (Qz [ra.map u8, wa.map u8, oa.map u8, [bl sb], [bl tb], sa.map u8, ta.map u8, [i64 n1], [i64 n2], [i64 n3], [vk]]) ∧ (ra.length = 32 ∧ wa.length = 32 ∧ oa.length = 32 ∧ sa.length = 32 ∧ ta.length = 32) ∧ RdK (Y8 W) Y3 65 vk ks ∧ ks.length ≤ 9223372036854775807 := by
 have hu := Xt
 simp only [Value.okWide, hu] at hval
 obtain ⟨cs, rfl, _⟩ := hval
 obtain ⟨ra, wa, oa, sb, tb, sa, ta, n1, n2, n3, vk, ks, he, h1, h2, h3⟩ := Qrw.of h
 refine ⟨ra, wa, oa, sb, tb, sa, ta, n1, n2, n3, vk, ks, ?_, h1, h2, h3⟩
 have : cs.toList = ([ra.map u8, wa.map u8, oa.map u8, [bl sb], [bl tb], sa.map u8, ta.map u8, [i64 n1], [i64 n2], [i64 n3], [vk]] : List (List Value)).flatten := by simpa [Value.cells] using he
 exact congrArg Value.agg (Array.ext' (this.trans rfl))
set_option maxRecDepth 100000 in
theorem arg_sn {W : World} {r : Reach} {b0 : Nat} {v : Value} {H : Type} {en : TypeId × Value → H} {d : DataW H} {ps : List MemPlace} (hval : Value.okWide prog W r b0 26 v) (h : DataW.Trod en prog W 0 (fun _ => true) true 26 v d ps) :
  ∃ (S : Sn) (vk : Value), v = .agg (Qz (sS S vk)) ∧ RdK (Y8 W) Y3 65 vk S.ks ∧ S.ks.length ≤ 9223372036854775807 := by
 obtain ⟨ra, wa, oa, sb, tb, sa, ta, n1, n2, n3, vk, ks, rfl, ⟨h1, h2, h3, h4, h5⟩, h6, h7⟩ := arg_ses hval h
 exact ⟨⟨ra, wa, oa, sb, tb, sa, ta, n1, n2, n3, ks, h1, h2, h3, h4, h5⟩, vk, rfl, h6, h7⟩
end Go.Proofs.YtkmiemlpfkfiiaaDoor
