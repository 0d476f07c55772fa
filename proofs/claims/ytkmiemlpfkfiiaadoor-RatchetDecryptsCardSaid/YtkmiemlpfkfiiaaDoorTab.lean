/- The tables: closed facts on the types and functions of this translation. Conditions: none. -/
import Derived.Test.YtkmiemlpfkfiiaaDoorFwQ
import Derived.Test.YtkmiemlpfkfiiaaDoorFwM
import Derived.Test.YtkmiemlpfkfiiaaDoorProg
namespace Go.Proofs.YtkmiemlpfkfiiaaDoor
open Tryd
theorem Ll : Jh prog 2 = some (some (i64 0), 1, 8) := by kernel_rfl
theorem Ui : Jh prog 3 = some (some (i64 0), 1, 8) := by kernel_rfl
theorem ti4 : Jh prog 4 = some (some (bl false), 1, 1) := by kernel_rfl
theorem Yw : Jh prog 5 = some (some (u8 0), 1, 1) := by kernel_rfl
theorem Zg : Jh prog 23 = some (some (agg u8 (List.replicate 32 0)), 32, 32) := by kernel_rfl
theorem Ec : Jh prog 24 = some (some Wl, 1, 24) := by kernel_rfl
theorem J6 : Jh prog 26 = some (some (Value.agg (Qz (sE (List.replicate 32 0) (List.replicate 32 0) (List.replicate 32 0) false false (List.replicate 32 0) (List.replicate 32 0) 0 0 0 Wl))), 166, 216) := by kernel_rfl
theorem Qa6 : Jh prog 27 = some (some Wl, 1, 24) := by kernel_rfl
theorem ti39 : Jh prog 39 = some (some (Value.agg #[(u8 0), (u8 0), (u8 0), (u8 0), (u8 0), (u8 0), (u8 0), (u8 0), (u8 0), (u8 0), (u8 0), (u8 0), (u8 0), (u8 0), (u8 0), (u8 0), (u8 0), (u8 0), (u8 0), (u8 0), (u8 0), (u8 0), (u8 0), (u8 0), (u8 0), (u8 0), (u8 0), (u8 0), (u8 0), (u8 0), (u8 0), (u8 0), (u8 0), (u8 0), (u8 0), (u8 0), (u8 0), (u8 0), (u8 0), (u8 0), (u8 0), (u8 0), (u8 0), (u8 0), (u8 0), (u8 0), (u8 0), (u8 0), (u8 0), (u8 0), (u8 0), (u8 0), (u8 0), (u8 0), (u8 0), (u8 0), (u8 0), (u8 0), (u8 0), (u8 0), (u8 0), (u8 0), (u8 0), (u8 0)]), 64, 64) := by kernel_rfl
theorem D9 : Jh prog 53 = some (some (Value.agg (Qz (sH (List.replicate 32 0) 0 0))), 34, 48) := by kernel_rfl
theorem Dj : Jh prog 69 = some (some (Value.agg #[(u8 0), (u8 0), (u8 0), (u8 0), (u8 0), (u8 0), (u8 0), (u8 0), (u8 0), (u8 0), (u8 0), (u8 0), (u8 0), (u8 0), (u8 0), (u8 0), (u8 0), (u8 0), (u8 0), (u8 0), (u8 0), (u8 0), (u8 0), (u8 0), (u8 0), (u8 0), (u8 0), (u8 0), (u8 0), (u8 0), (u8 0), (u8 0), (i64 0), (u8 0), (u8 0), (u8 0), (u8 0), (u8 0), (u8 0), (u8 0), (u8 0), (u8 0), (u8 0), (u8 0), (u8 0), (u8 0), (u8 0), (u8 0), (u8 0), (u8 0), (u8 0), (u8 0), (u8 0), (u8 0), (u8 0), (u8 0), (u8 0), (u8 0), (u8 0), (u8 0), (u8 0), (u8 0), (u8 0), (u8 0), (u8 0)]), 65, 72) := by kernel_rfl
theorem Qbl : Jh prog 77 = some (some (agg u8 (List.replicate 12 0)), 12, 12) := by kernel_rfl
theorem ti83 : Jh prog 83 = some (some Wl, 1, 24) := by kernel_rfl
theorem Ze : Jh prog 106 = some (some (u32 0), 1, 4) := by kernel_rfl
theorem Z7 : Jh prog 109 = some (some (agg i64 (List.replicate 16 0)), 16, 128) := by kernel_rfl
theorem Xq : Jh prog 124 = some (some (u64 0), 1, 8) := by kernel_rfl
theorem Yt : Jh prog 126 = some (some (agg u64 (List.replicate 5 0)), 5, 40) := by kernel_rfl
theorem Bf : Jh prog 129 = some (some (Value.agg #[(u64 0), (u64 0), (u64 0), (u64 0), (u64 0), (u64 0), (u64 0), (u64 0), (u64 0), (u64 0)]), 10, 80) := by kernel_rfl
theorem Qkv : Jh prog 139 = some (some (agg u8 (List.replicate 64 0)), 64, 64) := by kernel_rfl
theorem ti141 : Jh prog 141 = some (some (agg i64 (List.replicate 31 0)), 31, 248) := by kernel_rfl
theorem Qm3 : Jh prog 146 = some (some (Value.agg #[(u64 0), (u64 0)]), 2, 16) := by kernel_rfl
theorem ti147 : Jh prog 147 = some (some (agg u64 (List.replicate 10 0)), 10, 80) := by kernel_rfl
theorem Uj : Jh prog 152 = some (some (agg u32 (List.replicate 8 0)), 8, 32) := by kernel_rfl
theorem Qir : Jh prog 154 = some (some (Value.agg #[(u32 0), (u32 0), (u32 0), (u32 0), (u32 0), (u32 0), (u32 0), (u32 0), Wl, (u64 0)]), 10, 64) := by kernel_rfl
theorem Qff : Jh prog 156 = some (some (agg u32 (List.replicate 16 0)), 16, 64) := by kernel_rfl
theorem Qek : Jh prog 159 = some (some (agg i64 (List.replicate 4 0)), 4, 32) := by kernel_rfl
theorem Qbw : Jh prog 160 = some (some (agg u32 (List.replicate 64 0)), 64, 256) := by kernel_rfl
theorem Qbv : Jh prog 167 = some (some (agg u32 (List.replicate 4 0)), 4, 16) := by kernel_rfl
theorem rN {P : Program} {n : Nat} {ops : Array Oper} {N : (Nat → Value) → World → Prop} {Q : Exit → (Nat → Value) → World → Prop} {fr : Nat → Value} {w : World} (h : N fr w) : RW P n ops [] (fun fr w => Qcw N Q .normal fr w) fr w := Zp (Qc h)
theorem sR {P : Program} {n id : Nat} {l : List Oper} {y : Code} {Q : Exit → (Nat → Value) → World → Prop} {fr : Nat → Value} {w : World} (h : RW P n l.toArray l (fun fr w => Qcw (CW P n y Q) Q .normal fr w) fr w) : CW P n (.seq (.region id l.toArray false) y) Q fr w := Qa (Qb h)
theorem oM {p : Prop} (h : p := by omega) : p := h
theorem sD {p : Prop} (h : p := by first | (simp only [List.length_cons, List.length_nil]; done) | omega | (simp; done) | (simp; omega) | decide) : p := h
theorem sL {p : Prop} (h : p := by first | omega | (simp only [List.length_set, List.length_append, List.length_replicate, List.length_map, List.length_cons, List.length_nil]; omega) | (simp; done) | (simp; omega) | decide) : p := h
theorem sZ {p : Prop} (h : p := by rw [Qfh]; first | (simp only [List.length_cons, List.length_nil]; done) | omega | (simp; done) | (simp; omega) | decide) : p := h
set_option linter.defProp false in def uT2 := underlying2
set_option linter.defProp false in def Uu := underlying3
set_option linter.defProp false in def uT4 := underlying4
set_option linter.defProp false in def Vs := underlying5
set_option linter.defProp false in def uT9 := underlying9
set_option linter.defProp false in def Xl := underlying23
set_option linter.defProp false in def Wq := underlying24
set_option linter.defProp false in def Xt := underlying26
set_option linter.defProp false in def Zo := underlying27
set_option linter.defProp false in def uT39 := underlying39
set_option linter.defProp false in def Fj := underlying53
set_option linter.defProp false in def Qhz := underlying65
set_option linter.defProp false in def Qbk := underlying69
set_option linter.defProp false in def Po := underlying77
set_option linter.defProp false in def Qc6 := underlying82
set_option linter.defProp false in def Qcy := underlying83
set_option linter.defProp false in def Xv := underlying106
set_option linter.defProp false in def X8 := underlying109
set_option linter.defProp false in def uT121 := underlying121
set_option linter.defProp false in def Yj := underlying124
set_option linter.defProp false in def Xp := underlying126
set_option linter.defProp false in def Lh := underlying129
set_option linter.defProp false in def uT139 := underlying139
set_option linter.defProp false in def Qm1 := underlying141
set_option linter.defProp false in def Qio := underlying146
set_option linter.defProp false in def uT147 := underlying147
set_option linter.defProp false in def Y5 := underlying152
set_option linter.defProp false in def Vh := underlying154
set_option linter.defProp false in def Cc := underlying156
set_option linter.defProp false in def La := underlying159
set_option linter.defProp false in def Gm := underlying160
set_option linter.defProp false in def H9 := underlying163
set_option linter.defProp false in def Qkt := underlying165
set_option linter.defProp false in def Gl := underlying167
abbrev OC (f : Nat) : Prop := ∀ {fr : Nat → Value} {w : World} {xs : Array Operand} {vs : Array Value} {ts : Array TypeId} {ty : TypeId} {Φ : Value → World → Prop}, xs.map (Ql fr) = vs → X0 prog f vs w Φ → Wu prog fr w (.call ⟨.value (.func f), xs, ts⟩) ty Φ
theorem oc9 : OC 9 := fun h k => Xd func9 Xo Xo h k
theorem oc10 : OC 10 := fun h k => Xd func10 Xo Xo h k
theorem oc11 : OC 11 := fun h k => Xd func11 Xo Xo h k
theorem oc12 : OC 12 := fun h k => Xd func12 Xo Xo h k
theorem oc14 : OC 14 := fun h k => Xd func14 Xo Xo h k
theorem oc15 : OC 15 := fun h k => Xd func15 Xo Xo h k
theorem oc16 : OC 16 := fun h k => Xd func16 Xo Xo h k
theorem oc18 : OC 18 := fun h k => Xd func18 Xo Xo h k
theorem oc23 : OC 23 := fun h k => Xd func23 Xo Xo h k
theorem oc24 : OC 24 := fun h k => Xd func24 Xo Xo h k
theorem oc25 : OC 25 := fun h k => Xd func25 Xo Xo h k
theorem oc26 : OC 26 := fun h k => Xd func26 Xo Xo h k
theorem oc27 : OC 27 := fun h k => Xd func27 Xo Xo h k
theorem oc28 : OC 28 := fun h k => Xd func28 Xo Xo h k
theorem oc29 : OC 29 := fun h k => Xd func29 Xo Xo h k
theorem oc30 : OC 30 := fun h k => Xd func30 Xo Xo h k
theorem oc31 : OC 31 := fun h k => Xd func31 Xo Xo h k
theorem oc32 : OC 32 := fun h k => Xd func32 Xo Xo h k
theorem oc33 : OC 33 := fun h k => Xd func33 Xo Xo h k
theorem oc34 : OC 34 := fun h k => Xd func34 Xo Xo h k
theorem oc36 : OC 36 := fun h k => Xd func36 Xo Xo h k
theorem oc37 : OC 37 := fun h k => Xd func37 Xo Xo h k
theorem oc38 : OC 38 := fun h k => Xd func38 Xo Xo h k
theorem oc40 : OC 40 := fun h k => Xd func40 Xo Xo h k
theorem oc41 : OC 41 := fun h k => Xd func41 Xo Xo h k
theorem oc42 : OC 42 := fun h k => Xd func42 Xo Xo h k
theorem oc44 : OC 44 := fun h k => Xd func44 Xo Xo h k
theorem oc46 : OC 46 := fun h k => Xd func46 Xo Xo h k
theorem oc48 : OC 48 := fun h k => Xd func48 Xo Xo h k
theorem oc50 : OC 50 := fun h k => Xd func50 Xo Xo h k
theorem nm51 : (f51.name == "runtime.NumGoroutine") = false := by kernel_rfl
theorem bd51 : f51.body.isNone = false := by kernel_rfl
theorem oc52 : OC 52 := fun h k => Xd func52 Xo Xo h k
theorem oc53 : OC 53 := fun h k => Xd func53 Xo Xo h k
theorem oc54 : OC 54 := fun h k => Xd func54 Xo Xo h k
theorem oc55 : OC 55 := fun h k => Xd func55 Xo Xo h k
theorem oc56 : OC 56 := fun h k => Xd func56 Xo Xo h k
theorem oc57 : OC 57 := fun h k => Xd func57 Xo Xo h k
theorem nm58 : (f58.name == "runtime.NumGoroutine") = false := by kernel_rfl
theorem bd58 : f58.body.isNone = false := by kernel_rfl
theorem oc59 : OC 59 := fun h k => Xd func59 Xo Xo h k
theorem oc60 : OC 60 := fun h k => Xd func60 Xo Xo h k
theorem oc61 : OC 61 := fun h k => Xd func61 Xo Xo h k
theorem oc62 : OC 62 := fun h k => Xd func62 Xo Xo h k
theorem oc63 : OC 63 := fun h k => Xd func63 Xo Xo h k
theorem oc64 : OC 64 := fun h k => Xd func64 Xo Xo h k
theorem oc65 : OC 65 := fun h k => Xd func65 Xo Xo h k
theorem Qar : OC 66 := fun h k => Xd func66 Xo Xo h k
theorem oc67 : OC 67 := fun h k => Xd func67 Xo Xo h k
theorem oc68 : OC 68 := fun h k => Xd func68 Xo Xo h k
theorem oc69 : OC 69 := fun h k => Xd func69 Xo Xo h k
theorem oc70 : OC 70 := fun h k => Xd func70 Xo Xo h k
theorem oc71 : OC 71 := fun h k => Xd func71 Xo Xo h k
theorem oc72 : OC 72 := fun h k => Xd func72 Xo Xo h k
theorem oc73 : OC 73 := fun h k => Xd func73 Xo Xo h k
theorem oc75 : OC 75 := fun h k => Xd func75 Xo Xo h k
theorem oc76 : OC 76 := fun h k => Xd func76 Xo Xo h k
theorem oc77 : OC 77 := fun h k => Xd func77 Xo Xo h k
theorem oc78 : OC 78 := fun h k => Xd func78 Xo Xo h k
theorem oc79 : OC 79 := fun h k => Xd func79 Xo Xo h k
theorem oc80 : OC 80 := fun h k => Xd func80 Xo Xo h k
theorem Qgu : OC 81 := fun h k => Xd func81 Xo Xo h k
theorem oc82 : OC 82 := fun h k => Xd func82 Xo Xo h k
theorem oc83 : OC 83 := fun h k => Xd func83 Xo Xo h k
theorem oc84 : OC 84 := fun h k => Xd func84 Xo Xo h k
theorem oc85 : OC 85 := fun h k => Xd func85 Xo Xo h k
theorem oc86 : OC 86 := fun h k => Xd func86 Xo Xo h k
theorem oc87 : OC 87 := fun h k => Xd func87 Xo Xo h k
theorem oc88 : OC 88 := fun h k => Xd func88 Xo Xo h k
theorem oc89 : OC 89 := fun h k => Xd func89 Xo Xo h k
theorem oc90 : OC 90 := fun h k => Xd func90 Xo Xo h k
theorem oc91 : OC 91 := fun h k => Xd func91 Xo Xo h k
theorem oc92 : OC 92 := fun h k => Xd func92 Xo Xo h k
theorem oc93 : OC 93 := fun h k => Xd func93 Xo Xo h k
theorem oc94 : OC 94 := fun h k => Xd func94 Xo Xo h k
theorem oc95 : OC 95 := fun h k => Xd func95 Xo Xo h k
theorem oc96 : OC 96 := fun h k => Xd func96 Xo Xo h k
theorem oc97 : OC 97 := fun h k => Xd func97 Xo Xo h k
theorem oc98 : OC 98 := fun h k => Xd func98 Xo Xo h k
theorem oc99 : OC 99 := fun h k => Xd func99 Xo Xo h k
theorem oc101 : OC 101 := fun h k => Xd func101 Xo Xo h k
theorem oc102 : OC 102 := fun h k => Xd func102 Xo Xo h k
theorem oc103 : OC 103 := fun h k => Xd func103 Xo Xo h k
theorem Qhl : OC 104 := fun h k => Xd func104 Xo Xo h k
theorem oc105 : OC 105 := fun h k => Xd func105 Xo Xo h k
theorem Qep : OC 106 := fun h k => Xd func106 Xo Xo h k
theorem oc107 : OC 107 := fun h k => Xd func107 Xo Xo h k
theorem oc108 : OC 108 := fun h k => Xd func108 Xo Xo h k
theorem oc109 : OC 109 := fun h k => Xd func109 Xo Xo h k
theorem oc110 : OC 110 := fun h k => Xd func110 Xo Xo h k
theorem oc111 : OC 111 := fun h k => Xd func111 Xo Xo h k
theorem Qbe : OC 112 := fun h k => Xd func112 Xo Xo h k
theorem Qdg : OC 113 := fun h k => Xd func113 Xo Xo h k
theorem oc114 : OC 114 := fun h k => Xd func114 Xo Xo h k
theorem oc115 : OC 115 := fun h k => Xd func115 Xo Xo h k
section
variable {P : Program} {n : Nat} {ops : Array Oper} {rest : List Oper} {K : (Nat → Value) → World → Prop} {fr : Nat → Value} {w : World} {ty : TypeId} {pos : String} {aft : Array Edge} {d : Nat}
theorem Qd {op : Op} {v : Value} (h : Jy P fr w op ty v) (k : RW P n ops rest K (upd fr d v) w) (hd : Nat.blt d n = true := by rfl) : RW P n ops (⟨some d, op, ty, pos, aft, none⟩ :: rest) K fr w := rw_q hd h k
theorem Vw {op : Op} {Φ : Value → World → Prop} (h : Wu P fr w op ty Φ) (k : ∀ v w', Φ v w' → RW P n ops rest K (upd fr d v) w') (hd : Nat.blt d n = true := by rfl) : RW P n ops (⟨some d, op, ty, pos, aft, none⟩ :: rest) K fr w := rw_c hd h k
theorem Zm {x : Operand} (v : Value) (k : RW P n ops rest K (upd fr d v) w) (h : Ql fr x = v := by rfl) (hd : Nat.blt d n = true := by rfl) : RW P n ops (⟨some d, .move x, ty, pos, aft, none⟩ :: rest) K fr w := rw_q hd (Yh h) k
theorem Yb {x : Operand} {v : Value} (h : Ql fr x = v) (k : RW P n ops rest K (upd fr d v) w) (hd : Nat.blt d n = true := by rfl) : RW P n ops (⟨some d, .move x, ty, pos, aft, none⟩ :: rest) K fr w := rw_q hd (Yh h) k
theorem Zx {x : Operand} (v : Value) (k : RW P n ops rest K (upd fr d v) w) (h : Ql fr x = v := by rfl) (hd : Nat.blt d n = true := by rfl) : RW P n ops (⟨some d, .assign x, ty, pos, aft, none⟩ :: rest) K fr w := rw_q hd (Ud h) k
theorem yqA {x : Operand} {v : Value} (h : Ql fr x = v) (k : RW P n ops rest K (upd fr d v) w) (hd : Nat.blt d n = true := by rfl) : RW P n ops (⟨some d, .assign x, ty, pos, aft, none⟩ :: rest) K fr w := rw_q hd (Ud h) k
theorem Y9 {R : Rest} {op : Op} {v : Nat → Value} {H : Nat → List (Nat × Obj)} (h : Wu P fr w op ty (fun v' w' => ∃ b, v' = v b ∧ Ext w w' ∧ Mem w' R (H b))) (k : ∀ w' b, Mem w' R (H b) → RW P n ops rest K (upd fr d (v b)) w') (hd : Nat.blt d n = true := by rfl) : RW P n ops (⟨some d, op, ty, pos, aft, none⟩ :: rest) K fr w := rw_c hd h (by rintro _ w' ⟨b, rfl, _, m⟩; exact k w' b m)
theorem U3 {R : Rest} {op : Op} {v : Value} {H : List (Nat × Obj)} (m : Mem w R H) (h : Wu P fr w op ty (fun v' w' => v' = v ∧ Ext w w')) (k : ∀ w', Mem w' R H → RW P n ops rest K (upd fr d v) w') (hd : Nat.blt d n = true := by rfl) : RW P n ops (⟨some d, op, ty, pos, aft, none⟩ :: rest) K fr w := rw_c hd h (by rintro _ w' ⟨rfl, e⟩; exact k w' (m.ext e))
end
section
variable {P : Program} {n : Nat} {l : List Oper} {i : Nat} {r : List (Nat × Bool)} {tail : List Oper} {N : (Nat → Value) → World → Prop} {fr : Nat → Value} {w : World} {ty : TypeId} {pos : String} {aft : Array Edge} {d : Nat}
theorem X6 {op : Op} {v : Value} (ho : l[i]? = some ⟨some d, op, ty, pos, aft, none⟩) (h : ∀ {w : World}, Jy P fr w op ty v) (k : DW P n l tail N (Ext w) r (upd fr d v) w) (hd : Nat.blt d n = true := by rfl) : DW P n l tail N (Ext w) ((i, false) :: r) fr w := dw_q ho hd (fun _ _ => h) k
theorem Ym {op : Op} {v : Value} (ho : l[i]? = some ⟨some d, op, ty, pos, aft, none⟩) (h : ∀ w', Ext w w' → Jy P fr w' op ty v) (k : DW P n l tail N (Ext w) r (upd fr d v) w) (hd : Nat.blt d n = true := by rfl) : DW P n l tail N (Ext w) ((i, false) :: r) fr w := dw_q ho hd h k
theorem J8 {x : Operand} (ho : l[i]? = some ⟨some d, .move x, ty, pos, aft, none⟩) (v : Value) (k : DW P n l tail N (Ext w) r (upd fr d v) w) (h : Ql fr x = v := by rfl) (hd : Nat.blt d n = true := by rfl) : DW P n l tail N (Ext w) ((i, false) :: r) fr w := dw_q ho hd (fun _ _ => Yh h) k
theorem Uh {x : Operand} {v : Value} (ho : l[i]? = some ⟨some d, .move x, ty, pos, aft, none⟩) (h : Ql fr x = v) (k : DW P n l tail N (Ext w) r (upd fr d v) w) (hd : Nat.blt d n = true := by rfl) : DW P n l tail N (Ext w) ((i, false) :: r) fr w := dw_q ho hd (fun _ _ => Yh h) k
theorem Ns {R : Rest} {op : Op} {v : Value} (ho : l[i]? = some ⟨some d, op, ty, pos, aft, none⟩) (h : ∀ {w : World}, Jy P fr w op ty v) (k : DW P n l tail N (KR R) r (upd fr d v) w) (hd : Nat.blt d n = true := by rfl) : DW P n l tail N (KR R) ((i, false) :: r) fr w := dk_q ho hd (fun _ _ _ => h) k
theorem yqH {R : Rest} {op : Op} {v : Value} (ho : l[i]? = some ⟨some d, op, ty, pos, aft, none⟩) (h : ∀ w' H, Mem w' R H → Jy P fr w' op ty v) (k : DW P n l tail N (KR R) r (upd fr d v) w) (hd : Nat.blt d n = true := by rfl) : DW P n l tail N (KR R) ((i, false) :: r) fr w := dk_q ho hd h k
end
theorem Yo {P : Program} {fr : Nat → Value} {w : World} {ty : TypeId} {x y : Operand} {t t' : TypeId} (a b : Int) (hx : Ql fr x = i64 a := by rfl) (hy : Ql fr y = i64 b := by rfl) (h0 : -9223372036854775808 ≤ a + b := by omega) (h1 : a + b < 9223372036854775808 := by omega) : Jy P fr w (.binOp .add t x y t') ty (i64 (a + b)) := Zf hx hy h0 h1
theorem V4 {P : Program} {fr : Nat → Value} {w : World} {ty : TypeId} {x y : Operand} {t t' : TypeId} (a b : Int) (hx : Ql fr x = i64 a := by rfl) (hy : Ql fr y = i64 b := by rfl) (h0 : -9223372036854775808 ≤ a - b := by omega) (h1 : a - b < 9223372036854775808 := by omega) : Jy P fr w (.binOp .sub t x y t') ty (i64 (a - b)) := Yf hx hy h0 h1
theorem Vx {P : Program} {fr : Nat → Value} {w : World} {ty : TypeId} {x y : Operand} {t t' : TypeId} (a b : Int) (hx : Ql fr x = i64 a := by rfl) (hy : Ql fr y = i64 b := by rfl) (h0 : -9223372036854775808 ≤ a * b := by omega) (h1 : a * b < 9223372036854775808 := by omega) : Jy P fr w (.binOp .mul t x y t') ty (i64 (a * b)) := Kv hx hy h0 h1
theorem Jd {P : Program} {fr : Nat → Value} {w : World} {ty : TypeId} {x y : Operand} {t t' : TypeId} (a b : Int) (hx : Ql fr x = i64 a := by rfl) (hy : Ql fr y = i64 b := by rfl) : Jy P fr w (.binOp .lss t x y t') ty (bl (decide (a < b))) := Xa hx hy
theorem Ur {P : Program} {fr : Nat → Value} {w : World} {ty : TypeId} {x y : Operand} {t t' : TypeId} (a b : Int) (hx : Ql fr x = i64 a := by rfl) (hy : Ql fr y = i64 b := by rfl) : Jy P fr w (.binOp .geq t x y t') ty (bl (decide (b ≤ a))) := F5 hx hy
theorem Qhb {P : Program} {fr : Nat → Value} {w : World} {ty : TypeId} {x y : Operand} {t t' : TypeId} (a b : Int) (hx : Ql fr x = i64 a := by rfl) (hy : Ql fr y = i64 b := by rfl) : Jy P fr w (.binOp .gtr t x y t') ty (bl (decide (b < a))) := Vz hx hy
theorem x_eql {P : Program} {fr : Nat → Value} {w : World} {ty : TypeId} {x y : Operand} {t t' : TypeId} (a b : Int) (hx : Ql fr x = i64 a := by rfl) (hy : Ql fr y = i64 b := by rfl) : Jy P fr w (.binOp .eql t x y t') ty (bl (a == b)) := Gq hx hy
theorem x_neq {P : Program} {fr : Nat → Value} {w : World} {ty : TypeId} {x y : Operand} {t t' : TypeId} (a b : Int) (hx : Ql fr x = i64 a := by rfl) (hy : Ql fr y = i64 b := by rfl) : Jy P fr w (.binOp .neq t x y t') ty (bl (a != b)) := We hx hy
theorem Xu {P : Program} {fr : Nat → Value} {w : World} {ty : TypeId} {x y : Operand} {b off len n kb : Nat} {E T : TypeId} {z : Option Value} {k : IntKind} (r : Nat) (i : Int) (hu : P.underlying T = some (.array len E)) (hi : Jh P E = some (z, n, kb)) (hx : Ql fr x = ptr b off) (hy : Ql fr y = .int k i := by rfl) (hr : off + i.toNat * n = r := by omega) (h0 : 0 ≤ i := by omega) (h1 : i < len := by omega) : Jy P fr w (.indexAddr T x y) ty (ptr b r) := Zl hr hu hi hx hy h0 h1
theorem Sv {p : Prop} (h : p := by rw [Qfh]; first | omega | (simp only [List.length_set, List.length_append, List.length_replicate, List.length_map, List.length_cons, List.length_nil]; omega) | (simp; done) | (simp; omega) | decide) : p := h
theorem ysF {p : Prop} (h : p := by first | rfl | first | omega | (simp only [List.length_set, List.length_append, List.length_replicate, List.length_map, List.length_cons, List.length_nil]; omega) | (simp; done) | (simp; omega) | decide) : p := h
theorem ymA {w : World} {R : Rest} {H H' : List (Nat × Obj)} (h : Mem w R H) (e : H = H' := by first | with_reducible rfl | simp only [List.append_assoc, List.cons_append, List.nil_append, List.append_nil]) : Mem w R H' := e ▸ h
theorem Ye {P : Program} {n : Nat} {ops : Array Oper} {rest : List Oper} {K : (Nat → Value) → World → Prop} {fr : Nat → Value} {w : World} {ty : TypeId} {pos : String} {aft : Array Edge} {R : Rest} {H : List (Nat × Obj)} {b : Nat} {o o' : Obj}  {op : Op} (m : Mem w R ((b, o) :: H)) (h : Wu P fr w op ty (fun _ w' => Upd w b o' w')) (k : ∀ w', Mem w' R ((b, o') :: H) → RW P n ops rest K fr w') : RW P n ops (⟨none, op, ty, pos, aft, none⟩ :: rest) K fr w := Vf h fun _ w' u => k w' (m.upd0 u)
theorem Vu {P : Program} {n : Nat} {ops : Array Oper} {rest : List Oper} {K : (Nat → Value) → World → Prop} {fr : Nat → Value} {w : World} {ty : TypeId} {pos : String} {aft : Array Edge} {R : Rest} {H : List (Nat × Obj)} {b : Nat} {o o' : Obj} {p : Nat × Obj} {op : Op} (m : Mem w R (p :: (b, o) :: H)) (h : Wu P fr w op ty (fun _ w' => Upd w b o' w')) (k : ∀ w', Mem w' R (p :: (b, o') :: H) → RW P n ops rest K fr w') : RW P n ops (⟨none, op, ty, pos, aft, none⟩ :: rest) K fr w := Vf h fun _ w' u => k w' (m.upd1 u)
theorem Aa {P : Program} {n : Nat} {ops : Array Oper} {rest : List Oper} {K : (Nat → Value) → World → Prop} {fr : Nat → Value} {w : World} {ty : TypeId} {pos : String} {aft : Array Edge} {R : Rest} {H : List (Nat × Obj)} {b : Nat} {o o' : Obj} {p q : Nat × Obj} {op : Op} (m : Mem w R (p :: q :: (b, o) :: H)) (h : Wu P fr w op ty (fun _ w' => Upd w b o' w')) (k : ∀ w', Mem w' R (p :: q :: (b, o') :: H) → RW P n ops rest K fr w') : RW P n ops (⟨none, op, ty, pos, aft, none⟩ :: rest) K fr w := Vf h fun _ w' u => k w' (m.upd2 u)
theorem yqU3 {P : Program} {n : Nat} {ops : Array Oper} {rest : List Oper} {K : (Nat → Value) → World → Prop} {fr : Nat → Value} {w : World} {ty : TypeId} {pos : String} {aft : Array Edge} {R : Rest} {H : List (Nat × Obj)} {b : Nat} {o o' : Obj} {p q r : Nat × Obj} {op : Op} (m : Mem w R (p :: q :: r :: (b, o) :: H)) (h : Wu P fr w op ty (fun _ w' => Upd w b o' w')) (k : ∀ w', Mem w' R (p :: q :: r :: (b, o') :: H) → RW P n ops rest K fr w') : RW P n ops (⟨none, op, ty, pos, aft, none⟩ :: rest) K fr w := Vf h fun _ w' u => k w' (m.upd3 u)
theorem Gf {P : Program} {n : Nat} {l tail : List Oper} {N : (Nat → Value) → World → Prop} {fr : Nat → Value} {w : World} {R : Rest} {H : List (Nat × Obj)} {KK : World → Prop} (m : Mem w R H) (h : ∀ w', Mem w' R H → RW P n l.toArray tail N fr w') : DW P n l tail N KK [] fr w := fun w' e => h w' (m.ext e)
end Go.Proofs.YtkmiemlpfkfiiaaDoor
