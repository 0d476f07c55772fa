/- The tables: closed facts on the types and functions of this translation. Conditions: none. -/
import Derived.Test.YtkmiemlpfkfiiaaDoorFwQ
import Derived.Test.YtkmiemlpfkfiiaaDoorFwM
import Derived.Test.YtkmiemlpfkfiiaaDoorProg
namespace Go.Proofs.YtkmiemlpfkfiiaaDoor
open Tryd
theorem H6 : Jm prog 2 = some (some (i64 0), 1, 8) := by kernel_rfl
theorem U0 : Jm prog 3 = some (some (i64 0), 1, 8) := by kernel_rfl
theorem ti4 : Jm prog 4 = some (some (bl false), 1, 1) := by kernel_rfl
theorem Y0 : Jm prog 5 = some (some (u8 0), 1, 1) := by kernel_rfl
theorem Zl : Jm prog 23 = some (some (agg u8 (List.replicate 32 0)), 32, 32) := by kernel_rfl
theorem Aq : Jm prog 24 = some (some Yj, 1, 24) := by kernel_rfl
theorem Ja : Jm prog 26 = some (some (Value.agg (Qo (sE (List.replicate 32 0) (List.replicate 32 0) (List.replicate 32 0) false false (List.replicate 32 0) (List.replicate 32 0) 0 0 0 Yj))), 166, 216) := by kernel_rfl
theorem Pg : Jm prog 27 = some (some Yj, 1, 24) := by kernel_rfl
theorem Qhp : Jm prog 39 = some (some (Value.agg #[(u8 0), (u8 0), (u8 0), (u8 0), (u8 0), (u8 0), (u8 0), (u8 0), (u8 0), (u8 0), (u8 0), (u8 0), (u8 0), (u8 0), (u8 0), (u8 0), (u8 0), (u8 0), (u8 0), (u8 0), (u8 0), (u8 0), (u8 0), (u8 0), (u8 0), (u8 0), (u8 0), (u8 0), (u8 0), (u8 0), (u8 0), (u8 0), (u8 0), (u8 0), (u8 0), (u8 0), (u8 0), (u8 0), (u8 0), (u8 0), (u8 0), (u8 0), (u8 0), (u8 0), (u8 0), (u8 0), (u8 0), (u8 0), (u8 0), (u8 0), (u8 0), (u8 0), (u8 0), (u8 0), (u8 0), (u8 0), (u8 0), (u8 0), (u8 0), (u8 0), (u8 0), (u8 0), (u8 0), (u8 0)]), 64, 64) := by kernel_rfl
theorem Ap : Jm prog 53 = some (some (Value.agg (Qo (sH (List.replicate 32 0) 0 0))), 34, 48) := by kernel_rfl
theorem Bz : Jm prog 69 = some (some (Value.agg #[(u8 0), (u8 0), (u8 0), (u8 0), (u8 0), (u8 0), (u8 0), (u8 0), (u8 0), (u8 0), (u8 0), (u8 0), (u8 0), (u8 0), (u8 0), (u8 0), (u8 0), (u8 0), (u8 0), (u8 0), (u8 0), (u8 0), (u8 0), (u8 0), (u8 0), (u8 0), (u8 0), (u8 0), (u8 0), (u8 0), (u8 0), (u8 0), (i64 0), (u8 0), (u8 0), (u8 0), (u8 0), (u8 0), (u8 0), (u8 0), (u8 0), (u8 0), (u8 0), (u8 0), (u8 0), (u8 0), (u8 0), (u8 0), (u8 0), (u8 0), (u8 0), (u8 0), (u8 0), (u8 0), (u8 0), (u8 0), (u8 0), (u8 0), (u8 0), (u8 0), (u8 0), (u8 0), (u8 0), (u8 0), (u8 0)]), 65, 72) := by kernel_rfl
theorem Qa9 : Jm prog 77 = some (some (agg u8 (List.replicate 12 0)), 12, 12) := by kernel_rfl
theorem ti83 : Jm prog 83 = some (some Yj, 1, 24) := by kernel_rfl
theorem Zj : Jm prog 106 = some (some (u32 0), 1, 4) := by kernel_rfl
theorem Xc : Jm prog 109 = some (some (agg i64 (List.replicate 16 0)), 16, 128) := by kernel_rfl
theorem Xu : Jm prog 124 = some (some (u64 0), 1, 8) := by kernel_rfl
theorem Yw : Jm prog 126 = some (some (agg u64 (List.replicate 5 0)), 5, 40) := by kernel_rfl
theorem Cf : Jm prog 129 = some (some (Value.agg #[(u64 0), (u64 0), (u64 0), (u64 0), (u64 0), (u64 0), (u64 0), (u64 0), (u64 0), (u64 0)]), 10, 80) := by kernel_rfl
theorem Qkl : Jm prog 139 = some (some (agg u8 (List.replicate 64 0)), 64, 64) := by kernel_rfl
theorem ti141 : Jm prog 141 = some (some (agg i64 (List.replicate 31 0)), 31, 248) := by kernel_rfl
theorem Qmv : Jm prog 146 = some (some (Value.agg #[(u64 0), (u64 0)]), 2, 16) := by kernel_rfl
theorem ti147 : Jm prog 147 = some (some (agg u64 (List.replicate 10 0)), 10, 80) := by kernel_rfl
theorem Uk : Jm prog 152 = some (some (agg u32 (List.replicate 8 0)), 8, 32) := by kernel_rfl
theorem Qil : Jm prog 154 = some (some (Value.agg #[(u32 0), (u32 0), (u32 0), (u32 0), (u32 0), (u32 0), (u32 0), (u32 0), Yj, (u64 0)]), 10, 64) := by kernel_rfl
theorem Qe2 : Jm prog 156 = some (some (agg u32 (List.replicate 16 0)), 16, 64) := by kernel_rfl
theorem Qd6 : Jm prog 159 = some (some (agg i64 (List.replicate 4 0)), 4, 32) := by kernel_rfl
theorem Qbl : Jm prog 160 = some (some (agg u32 (List.replicate 64 0)), 64, 256) := by kernel_rfl
theorem Qbk : Jm prog 167 = some (some (agg u32 (List.replicate 4 0)), 4, 16) := by kernel_rfl
theorem rN {P : Program} {n : Nat} {ops : Array Oper} {N : (Nat → Value) → World → Prop} {Q : Exit → (Nat → Value) → World → Prop} {fr : Nat → Value} {w : World} (h : N fr w) : RW P n ops [] (fun fr w => Qcl N Q .normal fr w) fr w := Zv (Qc h)
theorem sR {P : Program} {n id : Nat} {l : List Oper} {y : Code} {Q : Exit → (Nat → Value) → World → Prop} {fr : Nat → Value} {w : World} (h : RW P n l.toArray l (fun fr w => Qcl (CW P n y Q) Q .normal fr w) fr w) : CW P n (.seq (.region id l.toArray false) y) Q fr w := Qa (Qb h)
theorem oM {p : Prop} (h : p := by omega) : p := h
theorem sD {p : Prop} (h : p := by first | (simp only [List.length_cons, List.length_nil]; done) | omega | (simp; done) | (simp; omega) | decide) : p := h
theorem sL {p : Prop} (h : p := by first | omega | (simp only [List.length_set, List.length_append, List.length_replicate, List.length_map, List.length_cons, List.length_nil]; omega) | (simp; done) | (simp; omega) | decide) : p := h
theorem sZ {p : Prop} (h : p := by rw [Qe5]; first | (simp only [List.length_cons, List.length_nil]; done) | omega | (simp; done) | (simp; omega) | decide) : p := h
set_option linter.defProp false in def uT2 := underlying2
set_option linter.defProp false in def Fj := underlying3
set_option linter.defProp false in def uT4 := underlying4
set_option linter.defProp false in def Gl := underlying5
set_option linter.defProp false in def uT9 := underlying9
set_option linter.defProp false in def Xq := underlying23
set_option linter.defProp false in def Gu := underlying24
set_option linter.defProp false in def X3 := underlying26
set_option linter.defProp false in def Zu := underlying27
set_option linter.defProp false in def Qih := underlying39
set_option linter.defProp false in def Ea := underlying53
set_option linter.defProp false in def uT64 := underlying64
set_option linter.defProp false in def Qbi := underlying65
set_option linter.defProp false in def Qei := underlying69
set_option linter.defProp false in def Pj := underlying77
set_option linter.defProp false in def Qcx := underlying82
set_option linter.defProp false in def Qcq := underlying83
set_option linter.defProp false in def Xx := underlying106
set_option linter.defProp false in def Yd := underlying109
set_option linter.defProp false in def uT121 := underlying121
set_option linter.defProp false in def Ym := underlying124
set_option linter.defProp false in def Xt := underlying126
set_option linter.defProp false in def Hz := underlying129
set_option linter.defProp false in def uT139 := underlying139
set_option linter.defProp false in def Qmt := underlying141
set_option linter.defProp false in def Qii := underlying146
set_option linter.defProp false in def uT147 := underlying147
set_option linter.defProp false in def Jc := underlying152
set_option linter.defProp false in def Vq := underlying154
set_option linter.defProp false in def D8 := underlying156
set_option linter.defProp false in def Hg := underlying159
set_option linter.defProp false in def Gw := underlying160
set_option linter.defProp false in def Hf := underlying163
set_option linter.defProp false in def Qkj := underlying165
set_option linter.defProp false in def Gv := underlying167
abbrev OC (f : Nat) : Prop := ∀ {fr : Nat → Value} {w : World} {xs : Array Operand} {vs : Array Value} {ts : Array TypeId} {ty : TypeId} {Φ : Value → World → Prop}, xs.map (Qq fr) = vs → X9 prog f vs w Φ → Vp prog fr w (.call ⟨.value (.func f), xs, ts⟩) ty Φ
theorem oc9 : OC 9 := fun h k => Xh func9 Xw Xw h k
theorem oc12 : OC 12 := fun h k => Xh func12 Xw Xw h k
theorem oc14 : OC 14 := fun h k => Xh func14 Xw Xw h k
theorem oc15 : OC 15 := fun h k => Xh func15 Xw Xw h k
theorem oc16 : OC 16 := fun h k => Xh func16 Xw Xw h k
theorem oc18 : OC 18 := fun h k => Xh func18 Xw Xw h k
theorem oc23 : OC 23 := fun h k => Xh func23 Xw Xw h k
theorem oc24 : OC 24 := fun h k => Xh func24 Xw Xw h k
theorem oc25 : OC 25 := fun h k => Xh func25 Xw Xw h k
theorem oc26 : OC 26 := fun h k => Xh func26 Xw Xw h k
theorem oc27 : OC 27 := fun h k => Xh func27 Xw Xw h k
theorem oc29 : OC 29 := fun h k => Xh func29 Xw Xw h k
theorem oc30 : OC 30 := fun h k => Xh func30 Xw Xw h k
theorem oc31 : OC 31 := fun h k => Xh func31 Xw Xw h k
theorem oc32 : OC 32 := fun h k => Xh func32 Xw Xw h k
theorem oc33 : OC 33 := fun h k => Xh func33 Xw Xw h k
theorem oc34 : OC 34 := fun h k => Xh func34 Xw Xw h k
theorem oc36 : OC 36 := fun h k => Xh func36 Xw Xw h k
theorem oc37 : OC 37 := fun h k => Xh func37 Xw Xw h k
theorem oc38 : OC 38 := fun h k => Xh func38 Xw Xw h k
theorem oc40 : OC 40 := fun h k => Xh func40 Xw Xw h k
theorem oc41 : OC 41 := fun h k => Xh func41 Xw Xw h k
theorem oc42 : OC 42 := fun h k => Xh func42 Xw Xw h k
theorem oc44 : OC 44 := fun h k => Xh func44 Xw Xw h k
theorem oc46 : OC 46 := fun h k => Xh func46 Xw Xw h k
theorem oc48 : OC 48 := fun h k => Xh func48 Xw Xw h k
theorem oc50 : OC 50 := fun h k => Xh func50 Xw Xw h k
theorem nm51 : (f51.name == "runtime.NumGoroutine") = false := by kernel_rfl
theorem bd51 : f51.body.isNone = false := by kernel_rfl
theorem oc52 : OC 52 := fun h k => Xh func52 Xw Xw h k
theorem oc53 : OC 53 := fun h k => Xh func53 Xw Xw h k
theorem oc54 : OC 54 := fun h k => Xh func54 Xw Xw h k
theorem oc55 : OC 55 := fun h k => Xh func55 Xw Xw h k
theorem oc56 : OC 56 := fun h k => Xh func56 Xw Xw h k
theorem oc57 : OC 57 := fun h k => Xh func57 Xw Xw h k
theorem nm58 : (f58.name == "runtime.NumGoroutine") = false := by kernel_rfl
theorem bd58 : f58.body.isNone = false := by kernel_rfl
theorem oc59 : OC 59 := fun h k => Xh func59 Xw Xw h k
theorem oc60 : OC 60 := fun h k => Xh func60 Xw Xw h k
theorem oc61 : OC 61 := fun h k => Xh func61 Xw Xw h k
theorem oc62 : OC 62 := fun h k => Xh func62 Xw Xw h k
theorem oc63 : OC 63 := fun h k => Xh func63 Xw Xw h k
theorem oc64 : OC 64 := fun h k => Xh func64 Xw Xw h k
theorem oc65 : OC 65 := fun h k => Xh func65 Xw Xw h k
theorem Qao : OC 66 := fun h k => Xh func66 Xw Xw h k
theorem oc67 : OC 67 := fun h k => Xh func67 Xw Xw h k
theorem oc68 : OC 68 := fun h k => Xh func68 Xw Xw h k
theorem oc69 : OC 69 := fun h k => Xh func69 Xw Xw h k
theorem oc70 : OC 70 := fun h k => Xh func70 Xw Xw h k
theorem oc71 : OC 71 := fun h k => Xh func71 Xw Xw h k
theorem oc72 : OC 72 := fun h k => Xh func72 Xw Xw h k
theorem oc73 : OC 73 := fun h k => Xh func73 Xw Xw h k
theorem oc75 : OC 75 := fun h k => Xh func75 Xw Xw h k
theorem oc76 : OC 76 := fun h k => Xh func76 Xw Xw h k
theorem oc77 : OC 77 := fun h k => Xh func77 Xw Xw h k
theorem oc78 : OC 78 := fun h k => Xh func78 Xw Xw h k
theorem oc79 : OC 79 := fun h k => Xh func79 Xw Xw h k
theorem oc80 : OC 80 := fun h k => Xh func80 Xw Xw h k
theorem Qgk : OC 81 := fun h k => Xh func81 Xw Xw h k
theorem oc82 : OC 82 := fun h k => Xh func82 Xw Xw h k
theorem oc83 : OC 83 := fun h k => Xh func83 Xw Xw h k
theorem oc84 : OC 84 := fun h k => Xh func84 Xw Xw h k
theorem oc85 : OC 85 := fun h k => Xh func85 Xw Xw h k
theorem oc86 : OC 86 := fun h k => Xh func86 Xw Xw h k
theorem oc87 : OC 87 := fun h k => Xh func87 Xw Xw h k
theorem oc88 : OC 88 := fun h k => Xh func88 Xw Xw h k
theorem oc89 : OC 89 := fun h k => Xh func89 Xw Xw h k
theorem oc90 : OC 90 := fun h k => Xh func90 Xw Xw h k
theorem oc91 : OC 91 := fun h k => Xh func91 Xw Xw h k
theorem oc92 : OC 92 := fun h k => Xh func92 Xw Xw h k
theorem oc93 : OC 93 := fun h k => Xh func93 Xw Xw h k
theorem oc94 : OC 94 := fun h k => Xh func94 Xw Xw h k
theorem oc95 : OC 95 := fun h k => Xh func95 Xw Xw h k
theorem oc96 : OC 96 := fun h k => Xh func96 Xw Xw h k
theorem oc97 : OC 97 := fun h k => Xh func97 Xw Xw h k
theorem oc98 : OC 98 := fun h k => Xh func98 Xw Xw h k
theorem oc99 : OC 99 := fun h k => Xh func99 Xw Xw h k
theorem oc101 : OC 101 := fun h k => Xh func101 Xw Xw h k
theorem oc102 : OC 102 := fun h k => Xh func102 Xw Xw h k
theorem oc103 : OC 103 := fun h k => Xh func103 Xw Xw h k
theorem Qhc : OC 104 := fun h k => Xh func104 Xw Xw h k
theorem oc105 : OC 105 := fun h k => Xh func105 Xw Xw h k
theorem Qec : OC 106 := fun h k => Xh func106 Xw Xw h k
theorem oc107 : OC 107 := fun h k => Xh func107 Xw Xw h k
theorem oc108 : OC 108 := fun h k => Xh func108 Xw Xw h k
theorem oc109 : OC 109 := fun h k => Xh func109 Xw Xw h k
theorem oc110 : OC 110 := fun h k => Xh func110 Xw Xw h k
theorem oc111 : OC 111 := fun h k => Xh func111 Xw Xw h k
theorem Qa3 : OC 112 := fun h k => Xh func112 Xw Xw h k
theorem Qc4 : OC 113 := fun h k => Xh func113 Xw Xw h k
theorem oc114 : OC 114 := fun h k => Xh func114 Xw Xw h k
theorem oc115 : OC 115 := fun h k => Xh func115 Xw Xw h k
section
variable {P : Program} {n : Nat} {ops : Array Oper} {rest : List Oper} {K : (Nat → Value) → World → Prop} {fr : Nat → Value} {w : World} {ty : TypeId} {pos : String} {aft : Array Edge} {d : Nat}
theorem Qd {op : Op} {v : Value} (h : Ko P fr w op ty v) (k : RW P n ops rest K (upd fr d v) w) (hd : Nat.blt d n = true := by rfl) : RW P n ops (⟨some d, op, ty, pos, aft, none⟩ :: rest) K fr w := rw_q hd h k
theorem Vy {op : Op} {Φ : Value → World → Prop} (h : Vp P fr w op ty Φ) (k : ∀ v w', Φ v w' → RW P n ops rest K (upd fr d v) w') (hd : Nat.blt d n = true := by rfl) : RW P n ops (⟨some d, op, ty, pos, aft, none⟩ :: rest) K fr w := rw_c hd h k
theorem Zp {x : Operand} (v : Value) (k : RW P n ops rest K (upd fr d v) w) (h : Qq fr x = v := by rfl) (hd : Nat.blt d n = true := by rfl) : RW P n ops (⟨some d, .move x, ty, pos, aft, none⟩ :: rest) K fr w := rw_q hd (Yp h) k
theorem Ya {x : Operand} {v : Value} (h : Qq fr x = v) (k : RW P n ops rest K (upd fr d v) w) (hd : Nat.blt d n = true := by rfl) : RW P n ops (⟨some d, .move x, ty, pos, aft, none⟩ :: rest) K fr w := rw_q hd (Yp h) k
theorem Zz {x : Operand} (v : Value) (k : RW P n ops rest K (upd fr d v) w) (h : Qq fr x = v := by rfl) (hd : Nat.blt d n = true := by rfl) : RW P n ops (⟨some d, .assign x, ty, pos, aft, none⟩ :: rest) K fr w := rw_q hd (Uw h) k
theorem Sz {x : Operand} {v : Value} (h : Qq fr x = v) (k : RW P n ops rest K (upd fr d v) w) (hd : Nat.blt d n = true := by rfl) : RW P n ops (⟨some d, .assign x, ty, pos, aft, none⟩ :: rest) K fr w := rw_q hd (Uw h) k
theorem Y9 {R : Rest} {op : Op} {v : Nat → Value} {H : Nat → List (Nat × Obj)} (h : Vp P fr w op ty (fun v' w' => ∃ b, v' = v b ∧ Ext w w' ∧ Mem w' R (H b))) (k : ∀ w' b, Mem w' R (H b) → RW P n ops rest K (upd fr d (v b)) w') (hd : Nat.blt d n = true := by rfl) : RW P n ops (⟨some d, op, ty, pos, aft, none⟩ :: rest) K fr w := rw_c hd h (by rintro _ w' ⟨b, rfl, _, m⟩; exact k w' b m)
theorem U9 {R : Rest} {op : Op} {v : Value} {H : List (Nat × Obj)} (m : Mem w R H) (h : Vp P fr w op ty (fun v' w' => v' = v ∧ Ext w w')) (k : ∀ w', Mem w' R H → RW P n ops rest K (upd fr d v) w') (hd : Nat.blt d n = true := by rfl) : RW P n ops (⟨some d, op, ty, pos, aft, none⟩ :: rest) K fr w := rw_c hd h (by rintro _ w' ⟨rfl, e⟩; exact k w' (m.ext e))
end
section
variable {P : Program} {n : Nat} {l : List Oper} {i : Nat} {r : List (Nat × Bool)} {tail : List Oper} {N : (Nat → Value) → World → Prop} {fr : Nat → Value} {w : World} {ty : TypeId} {pos : String} {aft : Array Edge} {d : Nat}
theorem Yb {op : Op} {v : Value} (ho : l[i]? = some ⟨some d, op, ty, pos, aft, none⟩) (h : ∀ {w : World}, Ko P fr w op ty v) (k : DW P n l tail N (Ext w) r (upd fr d v) w) (hd : Nat.blt d n = true := by rfl) : DW P n l tail N (Ext w) ((i, false) :: r) fr w := dw_q ho hd (fun _ _ => h) k
theorem Yn {op : Op} {v : Value} (ho : l[i]? = some ⟨some d, op, ty, pos, aft, none⟩) (h : ∀ w', Ext w w' → Ko P fr w' op ty v) (k : DW P n l tail N (Ext w) r (upd fr d v) w) (hd : Nat.blt d n = true := by rfl) : DW P n l tail N (Ext w) ((i, false) :: r) fr w := dw_q ho hd h k
theorem Ky {x : Operand} (ho : l[i]? = some ⟨some d, .move x, ty, pos, aft, none⟩) (v : Value) (k : DW P n l tail N (Ext w) r (upd fr d v) w) (h : Qq fr x = v := by rfl) (hd : Nat.blt d n = true := by rfl) : DW P n l tail N (Ext w) ((i, false) :: r) fr w := dw_q ho hd (fun _ _ => Yp h) k
theorem Um {x : Operand} {v : Value} (ho : l[i]? = some ⟨some d, .move x, ty, pos, aft, none⟩) (h : Qq fr x = v) (k : DW P n l tail N (Ext w) r (upd fr d v) w) (hd : Nat.blt d n = true := by rfl) : DW P n l tail N (Ext w) ((i, false) :: r) fr w := dw_q ho hd (fun _ _ => Yp h) k
theorem N8 {R : Rest} {op : Op} {v : Value} (ho : l[i]? = some ⟨some d, op, ty, pos, aft, none⟩) (h : ∀ {w : World}, Ko P fr w op ty v) (k : DW P n l tail N (KR R) r (upd fr d v) w) (hd : Nat.blt d n = true := by rfl) : DW P n l tail N (KR R) ((i, false) :: r) fr w := dk_q ho hd (fun _ _ _ => h) k
theorem yqH {R : Rest} {op : Op} {v : Value} (ho : l[i]? = some ⟨some d, op, ty, pos, aft, none⟩) (h : ∀ w' H, Mem w' R H → Ko P fr w' op ty v) (k : DW P n l tail N (KR R) r (upd fr d v) w) (hd : Nat.blt d n = true := by rfl) : DW P n l tail N (KR R) ((i, false) :: r) fr w := dk_q ho hd h k
end
theorem Yo {P : Program} {fr : Nat → Value} {w : World} {ty : TypeId} {x y : Operand} {t t' : TypeId} (a b : Int) (hx : Qq fr x = i64 a := by rfl) (hy : Qq fr y = i64 b := by rfl) (h0 : -9223372036854775808 ≤ a + b := by omega) (h1 : a + b < 9223372036854775808 := by omega) : Ko P fr w (.binOp .add t x y t') ty (i64 (a + b)) := Zg hx hy h0 h1
theorem Gg {P : Program} {fr : Nat → Value} {w : World} {ty : TypeId} {x y : Operand} {t t' : TypeId} (a b : Int) (hx : Qq fr x = i64 a := by rfl) (hy : Qq fr y = i64 b := by rfl) (h0 : -9223372036854775808 ≤ a - b := by omega) (h1 : a - b < 9223372036854775808 := by omega) : Ko P fr w (.binOp .sub t x y t') ty (i64 (a - b)) := Yk hx hy h0 h1
theorem V7 {P : Program} {fr : Nat → Value} {w : World} {ty : TypeId} {x y : Operand} {t t' : TypeId} (a b : Int) (hx : Qq fr x = i64 a := by rfl) (hy : Qq fr y = i64 b := by rfl) (h0 : -9223372036854775808 ≤ a * b := by omega) (h1 : a * b < 9223372036854775808 := by omega) : Ko P fr w (.binOp .mul t x y t') ty (i64 (a * b)) := Wl hx hy h0 h1
theorem Jf {P : Program} {fr : Nat → Value} {w : World} {ty : TypeId} {x y : Operand} {t t' : TypeId} (a b : Int) (hx : Qq fr x = i64 a := by rfl) (hy : Qq fr y = i64 b := by rfl) : Ko P fr w (.binOp .lss t x y t') ty (bl (decide (a < b))) := Z9 hx hy
theorem Ux {P : Program} {fr : Nat → Value} {w : World} {ty : TypeId} {x y : Operand} {t t' : TypeId} (a b : Int) (hx : Qq fr x = i64 a := by rfl) (hy : Qq fr y = i64 b := by rfl) : Ko P fr w (.binOp .geq t x y t') ty (bl (decide (b ≤ a))) := E8 hx hy
theorem Qg1 {P : Program} {fr : Nat → Value} {w : World} {ty : TypeId} {x y : Operand} {t t' : TypeId} (a b : Int) (hx : Qq fr x = i64 a := by rfl) (hy : Qq fr y = i64 b := by rfl) : Ko P fr w (.binOp .gtr t x y t') ty (bl (decide (b < a))) := Gm hx hy
theorem x_eql {P : Program} {fr : Nat → Value} {w : World} {ty : TypeId} {x y : Operand} {t t' : TypeId} (a b : Int) (hx : Qq fr x = i64 a := by rfl) (hy : Qq fr y = i64 b := by rfl) : Ko P fr w (.binOp .eql t x y t') ty (bl (a == b)) := Fb hx hy
theorem x_neq {P : Program} {fr : Nat → Value} {w : World} {ty : TypeId} {x y : Operand} {t t' : TypeId} (a b : Int) (hx : Qq fr x = i64 a := by rfl) (hy : Qq fr y = i64 b := by rfl) : Ko P fr w (.binOp .neq t x y t') ty (bl (a != b)) := Jw hx hy
theorem Xv {P : Program} {fr : Nat → Value} {w : World} {ty : TypeId} {x y : Operand} {b off len n kb : Nat} {E T : TypeId} {z : Option Value} {k : IntKind} (r : Nat) (i : Int) (hu : P.underlying T = some (.array len E)) (hi : Jm P E = some (z, n, kb)) (hx : Qq fr x = ptr b off) (hy : Qq fr y = .int k i := by rfl) (hr : off + i.toNat * n = r := by omega) (h0 : 0 ≤ i := by omega) (h1 : i < len := by omega) : Ko P fr w (.indexAddr T x y) ty (ptr b r) := Zo hr hu hi hx hy h0 h1
theorem Nj {p : Prop} (h : p := by rw [Qe5]; first | omega | (simp only [List.length_set, List.length_append, List.length_replicate, List.length_map, List.length_cons, List.length_nil]; omega) | (simp; done) | (simp; omega) | decide) : p := h
theorem ysF {p : Prop} (h : p := by first | rfl | first | omega | (simp only [List.length_set, List.length_append, List.length_replicate, List.length_map, List.length_cons, List.length_nil]; omega) | (simp; done) | (simp; omega) | decide) : p := h
theorem ymA {w : World} {R : Rest} {H H' : List (Nat × Obj)} (h : Mem w R H) (e : H = H' := by first | with_reducible rfl | simp only [List.append_assoc, List.cons_append, List.nil_append, List.append_nil]) : Mem w R H' := e ▸ h
theorem Ye {P : Program} {n : Nat} {ops : Array Oper} {rest : List Oper} {K : (Nat → Value) → World → Prop} {fr : Nat → Value} {w : World} {ty : TypeId} {pos : String} {aft : Array Edge} {R : Rest} {H : List (Nat × Obj)} {b : Nat} {o o' : Obj}  {op : Op} (m : Mem w R ((b, o) :: H)) (h : Vp P fr w op ty (fun _ w' => Upd w b o' w')) (k : ∀ w', Mem w' R ((b, o') :: H) → RW P n ops rest K fr w') : RW P n ops (⟨none, op, ty, pos, aft, none⟩ :: rest) K fr w := Vk h fun _ w' u => k w' (m.upd0 u)
theorem Vz {P : Program} {n : Nat} {ops : Array Oper} {rest : List Oper} {K : (Nat → Value) → World → Prop} {fr : Nat → Value} {w : World} {ty : TypeId} {pos : String} {aft : Array Edge} {R : Rest} {H : List (Nat × Obj)} {b : Nat} {o o' : Obj} {p : Nat × Obj} {op : Op} (m : Mem w R (p :: (b, o) :: H)) (h : Vp P fr w op ty (fun _ w' => Upd w b o' w')) (k : ∀ w', Mem w' R (p :: (b, o') :: H) → RW P n ops rest K fr w') : RW P n ops (⟨none, op, ty, pos, aft, none⟩ :: rest) K fr w := Vk h fun _ w' u => k w' (m.upd1 u)
theorem Bh {P : Program} {n : Nat} {ops : Array Oper} {rest : List Oper} {K : (Nat → Value) → World → Prop} {fr : Nat → Value} {w : World} {ty : TypeId} {pos : String} {aft : Array Edge} {R : Rest} {H : List (Nat × Obj)} {b : Nat} {o o' : Obj} {p q : Nat × Obj} {op : Op} (m : Mem w R (p :: q :: (b, o) :: H)) (h : Vp P fr w op ty (fun _ w' => Upd w b o' w')) (k : ∀ w', Mem w' R (p :: q :: (b, o') :: H) → RW P n ops rest K fr w') : RW P n ops (⟨none, op, ty, pos, aft, none⟩ :: rest) K fr w := Vk h fun _ w' u => k w' (m.upd2 u)
theorem yqU3 {P : Program} {n : Nat} {ops : Array Oper} {rest : List Oper} {K : (Nat → Value) → World → Prop} {fr : Nat → Value} {w : World} {ty : TypeId} {pos : String} {aft : Array Edge} {R : Rest} {H : List (Nat × Obj)} {b : Nat} {o o' : Obj} {p q r : Nat × Obj} {op : Op} (m : Mem w R (p :: q :: r :: (b, o) :: H)) (h : Vp P fr w op ty (fun _ w' => Upd w b o' w')) (k : ∀ w', Mem w' R (p :: q :: r :: (b, o') :: H) → RW P n ops rest K fr w') : RW P n ops (⟨none, op, ty, pos, aft, none⟩ :: rest) K fr w := Vk h fun _ w' u => k w' (m.upd3 u)
theorem Gs {P : Program} {n : Nat} {l tail : List Oper} {N : (Nat → Value) → World → Prop} {fr : Nat → Value} {w : World} {R : Rest} {H : List (Nat × Obj)} {KK : World → Prop} (m : Mem w R H) (h : ∀ w', Mem w' R H → RW P n l.toArray tail N fr w') : DW P n l tail N KK [] fr w := fun w' e => h w' (m.ext e)
end Go.Proofs.YtkmiemlpfkfiiaaDoor
