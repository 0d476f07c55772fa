/- Contracts: hash, fourth part. Conditions: none beyond those that each theorem states. -/
import Derived.Test.YtkmiemlpfkfiiaaDoorHa3
namespace Go.Proofs.YtkmiemlpfkfiiaaDoor
open Tryd
set_option linter.unusedVariables false
set_option linter.unusedSimpArgs false
attribute [local irreducible] Un Uh hAt Qgy
set_option maxHeartbeats 4000000 in
theorem c_hsum (vb : Value) (l : Zj) (w0 : World)  (hT : Tabs (Yn w0)) (hr : Rd (Yn w0) u8 vb l) (hl : l.length ≤ 35184372088832) : Xm prog 88 #[vb] w0 (fun r w1 => r = (agg u8 (Uh l)) ∧ Ext w0 w1) := by
 refine Qy (args := [vb]) func88 rfl ntmps88 results88 rfl ?_
 have m0 : Mem w0 (Qu w0) [] := Mem.of_world w0
 refine sR <| Y5 (Zf m0 Zi) fun w1 b2 m1 => ?_
 refine rN (sR ?_)
 refine G5 (oc84 (args0) (c_hnew _ (hT.mono fun b o e => (m1).rest b o e))) ?_
 rintro _ w2 ⟨bq3, rfl, k_w2⟩
 have m2 : Mem _ _ [_, _] := Mem.new (H := [_]) (H' := [(bq3, .cells #[(u32 1779033703#32), (u32 3144134277#32), (u32 1013904242#32), (u32 2773480762#32), (u32 1359893119#32), (u32 2600822924#32), (u32 528734635#32), (u32 1541459225#32), Jp, (u64 0#64)] 154 (0, 0))]) m1 k_w2
 refine Zv (ptr bq3 0) ?_
 refine rN (sR ?_)
 refine Zb (ptr bq3 0) <| Zb vb ?_
 have hF5 : Mem w2 (Qu w0) (([(bq3, .cells #[(u32 1779033703#32), (u32 3144134277#32), (u32 1013904242#32), (u32 2773480762#32), (u32 1359893119#32), (u32 2600822924#32), (u32 528734635#32), (u32 1541459225#32), Jp, (u64 0#64)] 154 (0, 0))] ++ ([] ++ ([]))) ++ ([(b2, .cells (cl u8 (List.replicate 32 0)) 23 (0, 0))])) := by
  have hT := m2
  try simp only [List.append_assoc, List.cons_append, List.nil_append, List.append_nil] at hT ⊢
  exact hT
 refine G5 (oc85 (X3 rfl rfl) (Qew bq3 1779033703#32 3144134277#32 1013904242#32 2773480762#32 1359893119#32 2600822924#32 528734635#32 1541459225#32 Jp ([]) ([]) 0#64 vb l _ _ (Mem.give hF5) (hT.mono fun b o e => Mem.addRest hF5 e) (Rd.addRest hF5 hr) (Xl.none u8 5) sD)) ?_
 rintro _ w4 ⟨y0q6, y1q6, y2q6, y3q6, y4q6, y5q6, y6q6, y7q6, sv2q6, Hs2q6, hyq6, gl2q6, k_w4⟩
 have m4 : Mem w4 (Qu w0) ([(bq3, .cells #[(u32 y0q6), (u32 y1q6), (u32 y2q6), (u32 y3q6), (u32 y4q6), (u32 y5q6), (u32 y6q6), (u32 y7q6), sv2q6, (u64 (0#64 + BitVec.ofInt 64 (l.length : Int)))] 154 (0, 0))] ++ (Hs2q6 ++ ([(b2, .cells (cl u8 (List.replicate 32 0)) 23 (0, 0))]))) := ymA (Mem.back hF5 k_w4)
 refine rN (sR ?_)
 refine Zb (ptr bq3 0) <| Dx m4 (oc87 (Jb rfl) (c_dsum bq3 y0q6 y1q6 y2q6 y3q6 y4q6 y5q6 y6q6 y7q6 sv2q6 ((([]) ++ l).drop (64 * ((([]) ++ l).length / 64))) (0#64 + BitVec.ofInt 64 (l.length : Int)) _ (hT.mono fun b o e => (m4).rest b o e) m4.h0 (gl2q6.rd (Mem.pick [_] Hs2q6 _ m4)) (by simp; omega))) fun w7 m7 => Ve (Qq (f := u8) (l := Un [y0q6, y1q6, y2q6, y3q6, y4q6, y5q6, y6q6, y7q6] ((([]) ++ l).drop (64 * ((([]) ++ l).length / 64))) (0#64 + BitVec.ofInt 64 (l.length : Int))) Q9 Zi rfl rfl sD ((Mem.pick2 [_] Hs2q6 [_] _ m7)).h0 sZ rfl) ?_
 rintro _ w9 uq9
 have m9 : Mem _ _ ([_, _] ++ (Hs2q6 ++ ([]))) := Mem.upd0 (Mem.pick2 [_] Hs2q6 [_] _ m7) uq9
 refine rN (Zy ?_)
 refine Qs [(agg u8 (Un [y0q6, y1q6, y2q6, y3q6, y4q6, y5q6, y6q6, y7q6] ((([]) ++ l).drop (64 * ((([]) ++ l).length / 64))) (0#64 + BitVec.ofInt 64 (l.length : Int))))] ⟨⟨_, rfl, Xi Xf rfl Zi m9.h0 sZ⟩, trivial⟩ ?_
 exact ⟨congrArg (agg u8) (sum_told hyq6), m9.toExt⟩
end Go.Proofs.YtkmiemlpfkfiiaaDoor
