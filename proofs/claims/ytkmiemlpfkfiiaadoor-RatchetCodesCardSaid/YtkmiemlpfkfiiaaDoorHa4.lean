/- Contracts: hash, fourth part. Conditions: none beyond those that each theorem states. -/
import Derived.Test.YtkmiemlpfkfiiaaDoorHa3
namespace Go.Proofs.YtkmiemlpfkfiiaaDoor
set_option linter.unusedVariables false
set_option linter.unusedSimpArgs false
attribute [local irreducible] Vb Vy hAt Qdl
set_option maxHeartbeats 4000000 in
theorem c_hsum (vb : Value) (l : List (BitVec 8)) (w0 : World)  (hT : Tabs (Y3 w0)) (hr : Rd (Y3 w0) u8 vb l) (hl : l.length ≤ 35184372088832) : X8 Tryd.prog 88 #[vb] w0 (fun r w1 => r = (agg u8 (Vy l)) ∧ Ext w0 w1) := by
 refine Zp (args := [vb]) Tryd.func88 rfl Tryd.ntmps88 Tryd.results88 rfl ?_
 have hm0 : Mem w0 (Qo w0) [] := Mem.of_world w0
 refine sR <| Zo rfl (Zy hm0 Z5) ?_
 rintro _ w1 ⟨b2, rfl, _ew1, hm1⟩
 refine rN (sR ?_)
 refine Zo rfl (Qx Tryd.func84 bd84 nm84 (args0) (c_hnew _ (hT.mono fun b o e => (hm1).rest b o e))) ?_
 rintro _ w2 ⟨bq3, rfl, k_w2⟩
 have hm2 : Mem w2 (Qo w0) [(bq3, .cells #[(u32 1779033703#32), (u32 3144134277#32), (u32 1013904242#32), (u32 2773480762#32), (u32 1359893119#32), (u32 2600822924#32), (u32 528734635#32), (u32 1541459225#32), (Value.slice none 0 0), (u64 0#64)] 154 (0, 0)), (b2, .cells (cl u8 (List.replicate 32 0)) 23 (0, 0))] := Mem.new (H := [(b2, .cells (cl u8 (List.replicate 32 0)) 23 (0, 0))]) (H' := [(bq3, .cells #[(u32 1779033703#32), (u32 3144134277#32), (u32 1013904242#32), (u32 2773480762#32), (u32 1359893119#32), (u32 2600822924#32), (u32 528734635#32), (u32 1541459225#32), (Value.slice none 0 0), (u64 0#64)] 154 (0, 0))]) hm1 k_w2
 refine Qb rfl (Qd (v := (ptr bq3 0)) rfl) ?_
 refine rN (sR ?_)
 refine Qb rfl (Qc (v := (ptr bq3 0)) rfl) <| rM rfl (v := vb) rfl ?_
 have hF5 : Mem w2 (Qo w0) (([(bq3, .cells #[(u32 1779033703#32), (u32 3144134277#32), (u32 1013904242#32), (u32 2773480762#32), (u32 1359893119#32), (u32 2600822924#32), (u32 528734635#32), (u32 1541459225#32), (Value.slice none 0 0), (u64 0#64)] 154 (0, 0))] ++ ([] ++ ([]))) ++ ([(b2, .cells (cl u8 (List.replicate 32 0)) 23 (0, 0))])) := by
   have hT := hm2
   try simp only [List.append_assoc, List.cons_append, List.nil_append, List.append_nil] at hT ⊢
   exact hT
 refine Zo rfl (Qx Tryd.func85 bd85 nm85 (Yk rfl rfl) (Qca bq3 1779033703#32 3144134277#32 1013904242#32 2773480762#32 1359893119#32 2600822924#32 528734635#32 1541459225#32 (Value.slice none 0 0) ([]) ([]) 0#64 vb l _ _ (Mem.give hF5) (hT.mono fun b o e => Mem.addRest hF5 e) (Rd.addRest hF5 hr) (Xx.none u8 5) sD)) ?_
 rintro _ w4 ⟨y0q6, y1q6, y2q6, y3q6, y4q6, y5q6, y6q6, y7q6, sv2q6, Hs2q6, hyq6, gl2q6, k_w4⟩
 have hm4 : Mem w4 (Qo w0) ([(bq3, .cells #[(u32 y0q6), (u32 y1q6), (u32 y2q6), (u32 y3q6), (u32 y4q6), (u32 y5q6), (u32 y6q6), (u32 y7q6), sv2q6, (u64 (0#64 + BitVec.ofInt 64 (l.length : Int)))] 154 (0, 0))] ++ (Hs2q6 ++ ([(b2, .cells (cl u8 (List.replicate 32 0)) 23 (0, 0))]))) := (by
   have hT := Mem.back hF5 k_w4
   try simp only [List.append_assoc, List.cons_append, List.nil_append, List.append_nil] at hT ⊢
   exact hT)
 refine rN (sR ?_)
 refine Qb rfl (Qc (v := (ptr bq3 0)) rfl) <| Zo rfl (Qx Tryd.func87 bd87 nm87 (Ye rfl) (c_dsum bq3 y0q6 y1q6 y2q6 y3q6 y4q6 y5q6 y6q6 y7q6 sv2q6 ((([]) ++ l).drop (64 * ((([]) ++ l).length / 64))) (0#64 + BitVec.ofInt 64 (l.length : Int)) _ (hT.mono fun b o e => (hm4).rest b o e) hm4.h0 (gl2q6.rd (Mem.pick [_] Hs2q6 _ hm4)) (by simp; omega))) ?_
 rintro _ w7 ⟨rfl, _ew7⟩
 have hm7 := hm4.ext _ew7
 refine Xf (Zl (f := u8) (l := Vb [y0q6, y1q6, y2q6, y3q6, y4q6, y5q6, y6q6, y7q6] ((([]) ++ l).drop (64 * ((([]) ++ l).length / 64))) (0#64 + BitVec.ofInt 64 (l.length : Int))) Q8 Z5 rfl rfl sD ((Mem.pick2 [_] Hs2q6 [_] _ hm7)).h0 sZ rfl) ?_
 rintro _ w9 uq9
 have hm9 : Mem w9 (Qo w0) ([(b2, .cells (cl u8 (Vb [y0q6, y1q6, y2q6, y3q6, y4q6, y5q6, y6q6, y7q6] ((([]) ++ l).drop (64 * ((([]) ++ l).length / 64))) (0#64 + BitVec.ofInt 64 (l.length : Int)))) 23 (0, 0)), (bq3, .cells #[(u32 y0q6), (u32 y1q6), (u32 y2q6), (u32 y3q6), (u32 y4q6), (u32 y5q6), (u32 y6q6), (u32 y7q6), sv2q6, (u64 (0#64 + BitVec.ofInt 64 (l.length : Int)))] 154 (0, 0))] ++ (Hs2q6 ++ ([]))) := Mem.upd0 (Mem.pick2 [_] Hs2q6 [_] _ hm7) uq9
 refine rN (Xn ?_)
 refine Zj [(agg u8 (Vb [y0q6, y1q6, y2q6, y3q6, y4q6, y5q6, y6q6, y7q6] ((([]) ++ l).drop (64 * ((([]) ++ l).length / 64))) (0#64 + BitVec.ofInt 64 (l.length : Int))))] ⟨⟨_, rfl, X6 Xo rfl Z5 hm9.h0 sZ⟩, trivial⟩ ?_
 exact ⟨congrArg (agg u8) (sum_told hyq6), hm9.toExt⟩
end Go.Proofs.YtkmiemlpfkfiiaaDoor
