/- The tables: closed facts on the types and functions of this translation. Conditions: none. -/
import Derived.Test.YtkmiemlpfkfiiaaDoorFwQ
import Derived.Test.YtkmiemlpfkfiiaaDoorFwM
import Derived.Test.YtkmiemlpfkfiiaaDoorProg
namespace Go.Proofs.YtkmiemlpfkfiiaaDoor
open List renaming replicate → aA
open Value renaming agg → aO
open Tryd
theorem Hz : Ji prog 2 = some (some (i64 0), 1, 8) := by kernel_rfl
theorem Uw : Ji prog 3 = some (some (i64 0), 1, 8) := by kernel_rfl
theorem ti4 : Ji prog 4 = some (some (bl false), 1, 1) := by kernel_rfl
theorem Yr : Ji prog 5 = some (some (u8 0), 1, 1) := by kernel_rfl
theorem Zh : Ji prog 23 = some (some (agg u8 (aA 32 0)), 32, 32) := by kernel_rfl
theorem Ar : Ji prog 24 = some (some J3, 1, 24) := by kernel_rfl
theorem J5 : Ji prog 26 = some (some (aO (Qy (sE (aA 32 0) (aA 32 0) (aA 32 0) false false (aA 32 0) (aA 32 0) 0 0 0 J3))), 166, 216) := by kernel_rfl
theorem Qay : Ji prog 27 = some (some J3, 1, 24) := by kernel_rfl
theorem Qil : Ji prog 39 = some (some (aO #[(u8 0), (u8 0), (u8 0), (u8 0), (u8 0), (u8 0), (u8 0), (u8 0), (u8 0), (u8 0), (u8 0), (u8 0), (u8 0), (u8 0), (u8 0), (u8 0), (u8 0), (u8 0), (u8 0), (u8 0), (u8 0), (u8 0), (u8 0), (u8 0), (u8 0), (u8 0), (u8 0), (u8 0), (u8 0), (u8 0), (u8 0), (u8 0), (u8 0), (u8 0), (u8 0), (u8 0), (u8 0), (u8 0), (u8 0), (u8 0), (u8 0), (u8 0), (u8 0), (u8 0), (u8 0), (u8 0), (u8 0), (u8 0), (u8 0), (u8 0), (u8 0), (u8 0), (u8 0), (u8 0), (u8 0), (u8 0), (u8 0), (u8 0), (u8 0), (u8 0), (u8 0), (u8 0), (u8 0), (u8 0)]), 64, 64) := by kernel_rfl
theorem Aq : Ji prog 53 = some (some (aO (Qy (sH (aA 32 0) 0 0))), 34, 48) := by kernel_rfl
theorem Ac : Ji prog 69 = some (some (aO #[(u8 0), (u8 0), (u8 0), (u8 0), (u8 0), (u8 0), (u8 0), (u8 0), (u8 0), (u8 0), (u8 0), (u8 0), (u8 0), (u8 0), (u8 0), (u8 0), (u8 0), (u8 0), (u8 0), (u8 0), (u8 0), (u8 0), (u8 0), (u8 0), (u8 0), (u8 0), (u8 0), (u8 0), (u8 0), (u8 0), (u8 0), (u8 0), (i64 0), (u8 0), (u8 0), (u8 0), (u8 0), (u8 0), (u8 0), (u8 0), (u8 0), (u8 0), (u8 0), (u8 0), (u8 0), (u8 0), (u8 0), (u8 0), (u8 0), (u8 0), (u8 0), (u8 0), (u8 0), (u8 0), (u8 0), (u8 0), (u8 0), (u8 0), (u8 0), (u8 0), (u8 0), (u8 0), (u8 0), (u8 0), (u8 0)]), 65, 72) := by kernel_rfl
theorem Qba : Ji prog 77 = some (some (agg u8 (aA 12 0)), 12, 12) := by kernel_rfl
theorem ti83 : Ji prog 83 = some (some J3, 1, 24) := by kernel_rfl
theorem Ze : Ji prog 106 = some (some (u32 0), 1, 4) := by kernel_rfl
theorem Z7 : Ji prog 109 = some (some (agg i64 (aA 16 0)), 16, 128) := by kernel_rfl
theorem Xq : Ji prog 124 = some (some (u64 0), 1, 8) := by kernel_rfl
theorem Yq : Ji prog 126 = some (some (agg u64 (aA 5 0)), 5, 40) := by kernel_rfl
theorem Ce : Ji prog 129 = some (some (aO #[(u64 0), (u64 0), (u64 0), (u64 0), (u64 0), (u64 0), (u64 0), (u64 0), (u64 0), (u64 0)]), 10, 80) := by kernel_rfl
theorem Qlg : Ji prog 139 = some (some (agg u8 (aA 64 0)), 64, 64) := by kernel_rfl
theorem ti141 : Ji prog 141 = some (some (agg i64 (aA 31 0)), 31, 248) := by kernel_rfl
theorem Qn6 : Ji prog 146 = some (some (aO #[(u64 0), (u64 0)]), 2, 16) := by kernel_rfl
theorem ti147 : Ji prog 147 = some (some (agg u64 (aA 10 0)), 10, 80) := by kernel_rfl
theorem Uf : Ji prog 152 = some (some (agg u32 (aA 8 0)), 8, 32) := by kernel_rfl
theorem Qjg : Ji prog 154 = some (some (aO #[(u32 0), (u32 0), (u32 0), (u32 0), (u32 0), (u32 0), (u32 0), (u32 0), J3, (u64 0)]), 10, 64) := by kernel_rfl
theorem Qfr : Ji prog 156 = some (some (agg u32 (aA 16 0)), 16, 64) := by kernel_rfl
theorem Qen : Ji prog 159 = some (some (agg i64 (aA 4 0)), 4, 32) := by kernel_rfl
theorem Qbn : Ji prog 160 = some (some (agg u32 (aA 64 0)), 64, 256) := by kernel_rfl
theorem Qbm : Ji prog 167 = some (some (agg u32 (aA 4 0)), 4, 16) := by kernel_rfl
theorem rN {P : Program} {n : Nat} {ops : Array Oper} {N : (Nat → Value) → World → Prop} {Q : Exit → (Nat → Value) → World → Prop} {fr : Nat → Value} {w : World} (h : N fr w) : RW P n ops [] (fun fr w => Qcu N Q .normal fr w) fr w := Zp (Qc h)
theorem sR {P : Program} {n id : Nat} {l : List Oper} {y : Code} {Q : Exit → (Nat → Value) → World → Prop} {fr : Nat → Value} {w : World} (h : RW P n l.toArray l (fun fr w => Qcu (CW P n y Q) Q .normal fr w) fr w) : CW P n (.seq (.region id l.toArray false) y) Q fr w := Qa (Qb h)
theorem oM {p : Prop} (h : p := by omega) : p := h
theorem sD {p : Prop} (h : p := by first | (simp only [List.length_cons, List.length_nil]; done) | omega | (simp; done) | (simp; omega) | decide) : p := h
theorem sL {p : Prop} (h : p := by first | omega | (simp only [List.length_set, List.length_append, List.length_replicate, List.length_map, List.length_cons, List.length_nil]; omega) | (simp; done) | (simp; omega) | decide) : p := h
theorem sZ {p : Prop} (h : p := by rw [Qfv]; first | (simp only [List.length_cons, List.length_nil]; done) | omega | (simp; done) | (simp; omega) | decide) : p := h
set_option linter.defProp false in def uT2 := underlying2
set_option linter.defProp false in def Fa := underlying3
set_option linter.defProp false in def uT4 := underlying4
set_option linter.defProp false in def V3 := underlying5
set_option linter.defProp false in def uT9 := underlying9
set_option linter.defProp false in def Xn := underlying23
set_option linter.defProp false in def Gi := underlying24
set_option linter.defProp false in def Yc := underlying26
set_option linter.defProp false in def Zn := underlying27
set_option linter.defProp false in def Qjc := underlying39
set_option linter.defProp false in def F8 := underlying53
set_option linter.defProp false in def Qik := underlying65
set_option linter.defProp false in def Qez := underlying69
set_option linter.defProp false in def Pm := underlying77
set_option linter.defProp false in def Qc5 := underlying82
set_option linter.defProp false in def Qcx := underlying83
set_option linter.defProp false in def Xt := underlying106
set_option linter.defProp false in def X6 := underlying109
set_option linter.defProp false in def uT121 := underlying121
set_option linter.defProp false in def Yh := underlying124
set_option linter.defProp false in def Xp := underlying126
set_option linter.defProp false in def Hy := underlying129
set_option linter.defProp false in def uT139 := underlying139
set_option linter.defProp false in def Qn4 := underlying141
set_option linter.defProp false in def Qjd := underlying146
set_option linter.defProp false in def uT147 := underlying147
set_option linter.defProp false in def Y6 := underlying152
set_option linter.defProp false in def Vg := underlying154
set_option linter.defProp false in def D6 := underlying156
set_option linter.defProp false in def Hm := underlying159
set_option linter.defProp false in def Gl := underlying160
set_option linter.defProp false in def Hg := underlying163
set_option linter.defProp false in def Qle := underlying165
set_option linter.defProp false in def Gj := underlying167
abbrev OC (f : Nat) : Prop := ∀ {fr : Nat → Value} {w : World} {xs : Array Operand} {vs : Array Value} {ts : Array TypeId} {ty : TypeId} {Φ : Value → World → Prop}, xs.map (Ql fr) = vs → Xz prog f vs w Φ → Vf prog fr w (.call ⟨.value (.func f), xs, ts⟩) ty Φ
theorem oc9 : OC 9 := fun h k => Xe func9 Xv Xv h k
theorem oc12 : OC 12 := fun h k => Xe func12 Xv Xv h k
theorem oc14 : OC 14 := fun h k => Xe func14 Xv Xv h k
theorem oc15 : OC 15 := fun h k => Xe func15 Xv Xv h k
theorem oc16 : OC 16 := fun h k => Xe func16 Xv Xv h k
theorem oc18 : OC 18 := fun h k => Xe func18 Xv Xv h k
theorem oc23 : OC 23 := fun h k => Xe func23 Xv Xv h k
theorem oc24 : OC 24 := fun h k => Xe func24 Xv Xv h k
theorem oc25 : OC 25 := fun h k => Xe func25 Xv Xv h k
theorem oc26 : OC 26 := fun h k => Xe func26 Xv Xv h k
theorem oc27 : OC 27 := fun h k => Xe func27 Xv Xv h k
theorem oc29 : OC 29 := fun h k => Xe func29 Xv Xv h k
theorem oc30 : OC 30 := fun h k => Xe func30 Xv Xv h k
theorem oc31 : OC 31 := fun h k => Xe func31 Xv Xv h k
theorem oc32 : OC 32 := fun h k => Xe func32 Xv Xv h k
theorem oc33 : OC 33 := fun h k => Xe func33 Xv Xv h k
theorem oc34 : OC 34 := fun h k => Xe func34 Xv Xv h k
theorem oc36 : OC 36 := fun h k => Xe func36 Xv Xv h k
theorem oc37 : OC 37 := fun h k => Xe func37 Xv Xv h k
theorem oc38 : OC 38 := fun h k => Xe func38 Xv Xv h k
theorem oc40 : OC 40 := fun h k => Xe func40 Xv Xv h k
theorem oc41 : OC 41 := fun h k => Xe func41 Xv Xv h k
theorem oc42 : OC 42 := fun h k => Xe func42 Xv Xv h k
theorem oc44 : OC 44 := fun h k => Xe func44 Xv Xv h k
theorem oc46 : OC 46 := fun h k => Xe func46 Xv Xv h k
theorem oc48 : OC 48 := fun h k => Xe func48 Xv Xv h k
theorem oc50 : OC 50 := fun h k => Xe func50 Xv Xv h k
theorem nm51 : (f51.name == "runtime.NumGoroutine") = false := by kernel_rfl
theorem bd51 : f51.body.isNone = false := by kernel_rfl
theorem oc52 : OC 52 := fun h k => Xe func52 Xv Xv h k
theorem oc53 : OC 53 := fun h k => Xe func53 Xv Xv h k
theorem oc54 : OC 54 := fun h k => Xe func54 Xv Xv h k
theorem oc55 : OC 55 := fun h k => Xe func55 Xv Xv h k
theorem oc56 : OC 56 := fun h k => Xe func56 Xv Xv h k
theorem oc57 : OC 57 := fun h k => Xe func57 Xv Xv h k
theorem nm58 : (f58.name == "runtime.NumGoroutine") = false := by kernel_rfl
theorem bd58 : f58.body.isNone = false := by kernel_rfl
theorem oc59 : OC 59 := fun h k => Xe func59 Xv Xv h k
theorem oc60 : OC 60 := fun h k => Xe func60 Xv Xv h k
theorem oc61 : OC 61 := fun h k => Xe func61 Xv Xv h k
theorem oc62 : OC 62 := fun h k => Xe func62 Xv Xv h k
theorem oc63 : OC 63 := fun h k => Xe func63 Xv Xv h k
theorem oc64 : OC 64 := fun h k => Xe func64 Xv Xv h k
theorem oc65 : OC 65 := fun h k => Xe func65 Xv Xv h k
theorem Qao : OC 66 := fun h k => Xe func66 Xv Xv h k
theorem oc67 : OC 67 := fun h k => Xe func67 Xv Xv h k
theorem oc68 : OC 68 := fun h k => Xe func68 Xv Xv h k
theorem oc69 : OC 69 := fun h k => Xe func69 Xv Xv h k
theorem oc70 : OC 70 := fun h k => Xe func70 Xv Xv h k
theorem oc71 : OC 71 := fun h k => Xe func71 Xv Xv h k
theorem oc72 : OC 72 := fun h k => Xe func72 Xv Xv h k
theorem oc73 : OC 73 := fun h k => Xe func73 Xv Xv h k
theorem oc75 : OC 75 := fun h k => Xe func75 Xv Xv h k
theorem oc76 : OC 76 := fun h k => Xe func76 Xv Xv h k
theorem oc77 : OC 77 := fun h k => Xe func77 Xv Xv h k
theorem oc78 : OC 78 := fun h k => Xe func78 Xv Xv h k
theorem oc79 : OC 79 := fun h k => Xe func79 Xv Xv h k
theorem oc80 : OC 80 := fun h k => Xe func80 Xv Xv h k
theorem Qhf : OC 81 := fun h k => Xe func81 Xv Xv h k
theorem oc82 : OC 82 := fun h k => Xe func82 Xv Xv h k
theorem oc83 : OC 83 := fun h k => Xe func83 Xv Xv h k
theorem oc84 : OC 84 := fun h k => Xe func84 Xv Xv h k
theorem oc85 : OC 85 := fun h k => Xe func85 Xv Xv h k
theorem oc86 : OC 86 := fun h k => Xe func86 Xv Xv h k
theorem oc87 : OC 87 := fun h k => Xe func87 Xv Xv h k
theorem oc88 : OC 88 := fun h k => Xe func88 Xv Xv h k
theorem oc89 : OC 89 := fun h k => Xe func89 Xv Xv h k
theorem oc90 : OC 90 := fun h k => Xe func90 Xv Xv h k
theorem oc91 : OC 91 := fun h k => Xe func91 Xv Xv h k
theorem oc92 : OC 92 := fun h k => Xe func92 Xv Xv h k
theorem oc93 : OC 93 := fun h k => Xe func93 Xv Xv h k
theorem oc94 : OC 94 := fun h k => Xe func94 Xv Xv h k
theorem oc95 : OC 95 := fun h k => Xe func95 Xv Xv h k
theorem oc96 : OC 96 := fun h k => Xe func96 Xv Xv h k
theorem oc97 : OC 97 := fun h k => Xe func97 Xv Xv h k
theorem oc98 : OC 98 := fun h k => Xe func98 Xv Xv h k
theorem oc99 : OC 99 := fun h k => Xe func99 Xv Xv h k
theorem oc101 : OC 101 := fun h k => Xe func101 Xv Xv h k
theorem oc102 : OC 102 := fun h k => Xe func102 Xv Xv h k
theorem oc103 : OC 103 := fun h k => Xe func103 Xv Xv h k
theorem Qh6 : OC 104 := fun h k => Xe func104 Xv Xv h k
theorem oc105 : OC 105 := fun h k => Xe func105 Xv Xv h k
theorem Qeu : OC 106 := fun h k => Xe func106 Xv Xv h k
theorem oc107 : OC 107 := fun h k => Xe func107 Xv Xv h k
theorem oc108 : OC 108 := fun h k => Xe func108 Xv Xv h k
theorem oc109 : OC 109 := fun h k => Xe func109 Xv Xv h k
theorem oc110 : OC 110 := fun h k => Xe func110 Xv Xv h k
theorem oc111 : OC 111 := fun h k => Xe func111 Xv Xv h k
theorem Qa4 : OC 112 := fun h k => Xe func112 Xv Xv h k
theorem Qdd : OC 113 := fun h k => Xe func113 Xv Xv h k
theorem oc114 : OC 114 := fun h k => Xe func114 Xv Xv h k
theorem oc115 : OC 115 := fun h k => Xe func115 Xv Xv h k
section
variable {P : Program} {n : Nat} {ops : Array Oper} {rest : List Oper} {K : (Nat → Value) → World → Prop} {fr : Nat → Value} {w : World} {ty : TypeId} {pos : String} {aft : Array Edge} {d : Nat}
theorem Qd {op : Op} {v : Value} (h : Jv P fr w op ty v) (k : RW P n ops rest K (upd fr d v) w) (hd : Nat.blt d n = true := by rfl) : RW P n ops (⟨some d, op, ty, pos, aft, none⟩ :: rest) K fr w := rw_q hd h k
theorem Vr {op : Op} {Φ : Value → World → Prop} (h : Vf P fr w op ty Φ) (k : ∀ v w', Φ v w' → RW P n ops rest K (upd fr d v) w') (hd : Nat.blt d n = true := by rfl) : RW P n ops (⟨some d, op, ty, pos, aft, none⟩ :: rest) K fr w := rw_c hd h k
theorem Zm {x : Operand} (v : Value) (k : RW P n ops rest K (upd fr d v) w) (h : Ql fr x = v := by rfl) (hd : Nat.blt d n = true := by rfl) : RW P n ops (⟨some d, .move x, ty, pos, aft, none⟩ :: rest) K fr w := rw_q hd (Jb h) k
theorem X9 {x : Operand} {v : Value} (h : Ql fr x = v) (k : RW P n ops rest K (upd fr d v) w) (hd : Nat.blt d n = true := by rfl) : RW P n ops (⟨some d, .move x, ty, pos, aft, none⟩ :: rest) K fr w := rw_q hd (Jb h) k
theorem Zx {x : Operand} (v : Value) (k : RW P n ops rest K (upd fr d v) w) (h : Ql fr x = v := by rfl) (hd : Nat.blt d n = true := by rfl) : RW P n ops (⟨some d, .assign x, ty, pos, aft, none⟩ :: rest) K fr w := rw_q hd (Un h) k
theorem Tc {x : Operand} {v : Value} (h : Ql fr x = v) (k : RW P n ops rest K (upd fr d v) w) (hd : Nat.blt d n = true := by rfl) : RW P n ops (⟨some d, .assign x, ty, pos, aft, none⟩ :: rest) K fr w := rw_q hd (Un h) k
theorem Y5 {R : Rest} {op : Op} {v : Nat → Value} {H : Nat → List (Nat × Obj)} (h : Vf P fr w op ty (fun v' w' => ∃ b, v' = v b ∧ Ext w w' ∧ Mem w' R (H b))) (k : ∀ w' b, Mem w' R (H b) → RW P n ops rest K (upd fr d (v b)) w') (hd : Nat.blt d n = true := by rfl) : RW P n ops (⟨some d, op, ty, pos, aft, none⟩ :: rest) K fr w := rw_c hd h (by rintro _ w' ⟨b, rfl, _, m⟩; exact k w' b m)
theorem U5 {R : Rest} {op : Op} {v : Value} {H : List (Nat × Obj)} (m : Mem w R H) (h : Vf P fr w op ty (fun v' w' => v' = v ∧ Ext w w')) (k : ∀ w', Mem w' R H → RW P n ops rest K (upd fr d v) w') (hd : Nat.blt d n = true := by rfl) : RW P n ops (⟨some d, op, ty, pos, aft, none⟩ :: rest) K fr w := rw_c hd h (by rintro _ w' ⟨rfl, e⟩; exact k w' (m.ext e))
end
section
variable {P : Program} {n : Nat} {l : List Oper} {i : Nat} {r : List (Nat × Bool)} {tail : List Oper} {N : (Nat → Value) → World → Prop} {fr : Nat → Value} {w : World} {ty : TypeId} {pos : String} {aft : Array Edge} {d : Nat}
theorem X4 {op : Op} {v : Value} (ho : l[i]? = some ⟨some d, op, ty, pos, aft, none⟩) (h : ∀ {w : World}, Jv P fr w op ty v) (k : DW P n l tail N (Ext w) r (upd fr d v) w) (hd : Nat.blt d n = true := by rfl) : DW P n l tail N (Ext w) ((i, false) :: r) fr w := dw_q ho hd (fun _ _ => h) k
theorem Yj {op : Op} {v : Value} (ho : l[i]? = some ⟨some d, op, ty, pos, aft, none⟩) (h : ∀ w', Ext w w' → Jv P fr w' op ty v) (k : DW P n l tail N (Ext w) r (upd fr d v) w) (hd : Nat.blt d n = true := by rfl) : DW P n l tail N (Ext w) ((i, false) :: r) fr w := dw_q ho hd h k
theorem J7 {x : Operand} (ho : l[i]? = some ⟨some d, .move x, ty, pos, aft, none⟩) (v : Value) (k : DW P n l tail N (Ext w) r (upd fr d v) w) (h : Ql fr x = v := by rfl) (hd : Nat.blt d n = true := by rfl) : DW P n l tail N (Ext w) ((i, false) :: r) fr w := dw_q ho hd (fun _ _ => Jb h) k
theorem Uh {x : Operand} {v : Value} (ho : l[i]? = some ⟨some d, .move x, ty, pos, aft, none⟩) (h : Ql fr x = v) (k : DW P n l tail N (Ext w) r (upd fr d v) w) (hd : Nat.blt d n = true := by rfl) : DW P n l tail N (Ext w) ((i, false) :: r) fr w := dw_q ho hd (fun _ _ => Jb h) k
theorem N8 {R : Rest} {op : Op} {v : Value} (ho : l[i]? = some ⟨some d, op, ty, pos, aft, none⟩) (h : ∀ {w : World}, Jv P fr w op ty v) (k : DW P n l tail N (KR R) r (upd fr d v) w) (hd : Nat.blt d n = true := by rfl) : DW P n l tail N (KR R) ((i, false) :: r) fr w := dk_q ho hd (fun _ _ _ => h) k
theorem yqH {R : Rest} {op : Op} {v : Value} (ho : l[i]? = some ⟨some d, op, ty, pos, aft, none⟩) (h : ∀ w' H, Mem w' R H → Jv P fr w' op ty v) (k : DW P n l tail N (KR R) r (upd fr d v) w) (hd : Nat.blt d n = true := by rfl) : DW P n l tail N (KR R) ((i, false) :: r) fr w := dk_q ho hd h k
end
theorem Yk {P : Program} {fr : Nat → Value} {w : World} {ty : TypeId} {x y : Operand} {t t' : TypeId} (a b : Int) (hx : Ql fr x = i64 a := by rfl) (hy : Ql fr y = i64 b := by rfl) (h0 : -9223372036854775808 ≤ a + b := by omega) (h1 : a + b < 9223372036854775808 := by omega) : Jv P fr w (.binOp .add t x y t') ty (i64 (a + b)) := Zg hx hy h0 h1
theorem V4 {P : Program} {fr : Nat → Value} {w : World} {ty : TypeId} {x y : Operand} {t t' : TypeId} (a b : Int) (hx : Ql fr x = i64 a := by rfl) (hy : Ql fr y = i64 b := by rfl) (h0 : -9223372036854775808 ≤ a - b := by omega) (h1 : a - b < 9223372036854775808 := by omega) : Jv P fr w (.binOp .sub t x y t') ty (i64 (a - b)) := Yg hx hy h0 h1
theorem Vw {P : Program} {fr : Nat → Value} {w : World} {ty : TypeId} {x y : Operand} {t t' : TypeId} (a b : Int) (hx : Ql fr x = i64 a := by rfl) (hy : Ql fr y = i64 b := by rfl) (h0 : -9223372036854775808 ≤ a * b := by omega) (h1 : a * b < 9223372036854775808 := by omega) : Jv P fr w (.binOp .mul t x y t') ty (i64 (a * b)) := Ku hx hy h0 h1
theorem Jc {P : Program} {fr : Nat → Value} {w : World} {ty : TypeId} {x y : Operand} {t t' : TypeId} (a b : Int) (hx : Ql fr x = i64 a := by rfl) (hy : Ql fr y = i64 b := by rfl) : Jv P fr w (.binOp .lss t x y t') ty (bl (decide (a < b))) := Xd hx hy
theorem Uo {P : Program} {fr : Nat → Value} {w : World} {ty : TypeId} {x y : Operand} {t t' : TypeId} (a b : Int) (hx : Ql fr x = i64 a := by rfl) (hy : Ql fr y = i64 b := by rfl) : Jv P fr w (.binOp .geq t x y t') ty (bl (decide (b ≤ a))) := Ey hx hy
theorem Qht {P : Program} {fr : Nat → Value} {w : World} {ty : TypeId} {x y : Operand} {t t' : TypeId} (a b : Int) (hx : Ql fr x = i64 a := by rfl) (hy : Ql fr y = i64 b := by rfl) : Jv P fr w (.binOp .gtr t x y t') ty (bl (decide (b < a))) := G7 hx hy
theorem x_eql {P : Program} {fr : Nat → Value} {w : World} {ty : TypeId} {x y : Operand} {t t' : TypeId} (a b : Int) (hx : Ql fr x = i64 a := by rfl) (hy : Ql fr y = i64 b := by rfl) : Jv P fr w (.binOp .eql t x y t') ty (bl (a == b)) := G8 hx hy
theorem x_neq {P : Program} {fr : Nat → Value} {w : World} {ty : TypeId} {x y : Operand} {t t' : TypeId} (a b : Int) (hx : Ql fr x = i64 a := by rfl) (hy : Ql fr y = i64 b := by rfl) : Jv P fr w (.binOp .neq t x y t') ty (bl (a != b)) := Kz hx hy
theorem Xr {P : Program} {fr : Nat → Value} {w : World} {ty : TypeId} {x y : Operand} {b off len n kb : Nat} {E T : TypeId} {z : Option Value} {k : IntKind} (r : Nat) (i : Int) (hu : P.underlying T = some (.array len E)) (hi : Ji P E = some (z, n, kb)) (hx : Ql fr x = ptr b off) (hy : Ql fr y = .int k i := by rfl) (hr : off + i.toNat * n = r := by omega) (h0 : 0 ≤ i := by omega) (h1 : i < len := by omega) : Jv P fr w (.indexAddr T x y) ty (ptr b r) := Zj hr hu hi hx hy h0 h1
theorem Ph {p : Prop} (h : p := by rw [Qfv]; first | omega | (simp only [List.length_set, List.length_append, List.length_replicate, List.length_map, List.length_cons, List.length_nil]; omega) | (simp; done) | (simp; omega) | decide) : p := h
theorem ysF {p : Prop} (h : p := by first | rfl | first | omega | (simp only [List.length_set, List.length_append, List.length_replicate, List.length_map, List.length_cons, List.length_nil]; omega) | (simp; done) | (simp; omega) | decide) : p := h
theorem ymA {w : World} {R : Rest} {H H' : List (Nat × Obj)} (h : Mem w R H) (e : H = H' := by first | with_reducible rfl | simp only [List.append_assoc, List.cons_append, List.nil_append, List.append_nil]) : Mem w R H' := e ▸ h
theorem Ye {P : Program} {n : Nat} {ops : Array Oper} {rest : List Oper} {K : (Nat → Value) → World → Prop} {fr : Nat → Value} {w : World} {ty : TypeId} {pos : String} {aft : Array Edge} {R : Rest} {H : List (Nat × Obj)} {b : Nat} {o o' : Obj}  {op : Op} (m : Mem w R ((b, o) :: H)) (h : Vf P fr w op ty (fun _ w' => Upd w b o' w')) (k : ∀ w', Mem w' R ((b, o') :: H) → RW P n ops rest K fr w') : RW P n ops (⟨none, op, ty, pos, aft, none⟩ :: rest) K fr w := Vd h fun _ w' u => k w' (m.upd0 u)
theorem Vs {P : Program} {n : Nat} {ops : Array Oper} {rest : List Oper} {K : (Nat → Value) → World → Prop} {fr : Nat → Value} {w : World} {ty : TypeId} {pos : String} {aft : Array Edge} {R : Rest} {H : List (Nat × Obj)} {b : Nat} {o o' : Obj} {p : Nat × Obj} {op : Op} (m : Mem w R (p :: (b, o) :: H)) (h : Vf P fr w op ty (fun _ w' => Upd w b o' w')) (k : ∀ w', Mem w' R (p :: (b, o') :: H) → RW P n ops rest K fr w') : RW P n ops (⟨none, op, ty, pos, aft, none⟩ :: rest) K fr w := Vd h fun _ w' u => k w' (m.upd1 u)
theorem Bj {P : Program} {n : Nat} {ops : Array Oper} {rest : List Oper} {K : (Nat → Value) → World → Prop} {fr : Nat → Value} {w : World} {ty : TypeId} {pos : String} {aft : Array Edge} {R : Rest} {H : List (Nat × Obj)} {b : Nat} {o o' : Obj} {p q : Nat × Obj} {op : Op} (m : Mem w R (p :: q :: (b, o) :: H)) (h : Vf P fr w op ty (fun _ w' => Upd w b o' w')) (k : ∀ w', Mem w' R (p :: q :: (b, o') :: H) → RW P n ops rest K fr w') : RW P n ops (⟨none, op, ty, pos, aft, none⟩ :: rest) K fr w := Vd h fun _ w' u => k w' (m.upd2 u)
theorem yqU3 {P : Program} {n : Nat} {ops : Array Oper} {rest : List Oper} {K : (Nat → Value) → World → Prop} {fr : Nat → Value} {w : World} {ty : TypeId} {pos : String} {aft : Array Edge} {R : Rest} {H : List (Nat × Obj)} {b : Nat} {o o' : Obj} {p q r : Nat × Obj} {op : Op} (m : Mem w R (p :: q :: r :: (b, o) :: H)) (h : Vf P fr w op ty (fun _ w' => Upd w b o' w')) (k : ∀ w', Mem w' R (p :: q :: r :: (b, o') :: H) → RW P n ops rest K fr w') : RW P n ops (⟨none, op, ty, pos, aft, none⟩ :: rest) K fr w := Vd h fun _ w' u => k w' (m.upd3 u)
theorem Gf {P : Program} {n : Nat} {l tail : List Oper} {N : (Nat → Value) → World → Prop} {fr : Nat → Value} {w : World} {R : Rest} {H : List (Nat × Obj)} {KK : World → Prop} (m : Mem w R H) (h : ∀ w', Mem w' R H → RW P n l.toArray tail N fr w') : DW P n l tail N KK [] fr w := fun w' e => h w' (m.ext e)
end Go.Proofs.YtkmiemlpfkfiiaaDoor
