/- The tables: closed facts on the types and functions of this translation. Conditions: none. -/
import Derived.Test.YtkmiemlpfkfiiaaDoorFwQ
import Derived.Test.YtkmiemlpfkfiiaaDoorFwM
import Derived.Test.YtkmiemlpfkfiiaaDoorProg
namespace Go.Proofs.YtkmiemlpfkfiiaaDoor
theorem Dq : Y1 Tryd.prog 2 = some (some (i64 0), 1, 8) := by kernel_rfl
theorem Dy : Y1 Tryd.prog 3 = some (some (i64 0), 1, 8) := by kernel_rfl
theorem ti4 : Y1 Tryd.prog 4 = some (some (bl false), 1, 1) := by kernel_rfl
theorem X6 : Y1 Tryd.prog 5 = some (some (u8 0), 1, 1) := by kernel_rfl
theorem Z9 : Y1 Tryd.prog 23 = some (some (agg u8 (List.replicate 32 0)), 32, 32) := by kernel_rfl
theorem Qbu : Y1 Tryd.prog 24 = some (some (Value.slice none 0 0), 1, 24) := by kernel_rfl
theorem Y8 : Y1 Tryd.prog 26 = some (some (Value.agg (Zl (sE (List.replicate 32 0) (List.replicate 32 0) (List.replicate 32 0) false false (List.replicate 32 0) (List.replicate 32 0) 0 0 0 (Value.slice none 0 0)))), 166, 216) := by kernel_rfl
theorem Td : Y1 Tryd.prog 27 = some (some (Value.slice none 0 0), 1, 24) := by kernel_rfl
theorem Qct : Y1 Tryd.prog 39 = some (some (Value.agg #[(u8 0), (u8 0), (u8 0), (u8 0), (u8 0), (u8 0), (u8 0), (u8 0), (u8 0), (u8 0), (u8 0), (u8 0), (u8 0), (u8 0), (u8 0), (u8 0), (u8 0), (u8 0), (u8 0), (u8 0), (u8 0), (u8 0), (u8 0), (u8 0), (u8 0), (u8 0), (u8 0), (u8 0), (u8 0), (u8 0), (u8 0), (u8 0), (u8 0), (u8 0), (u8 0), (u8 0), (u8 0), (u8 0), (u8 0), (u8 0), (u8 0), (u8 0), (u8 0), (u8 0), (u8 0), (u8 0), (u8 0), (u8 0), (u8 0), (u8 0), (u8 0), (u8 0), (u8 0), (u8 0), (u8 0), (u8 0), (u8 0), (u8 0), (u8 0), (u8 0), (u8 0), (u8 0), (u8 0), (u8 0)]), 64, 64) := by kernel_rfl
theorem ti53 : Y1 Tryd.prog 53 = some (some (Value.agg (Zl (sH (List.replicate 32 0) 0 0))), 34, 48) := by kernel_rfl
theorem Qfm : Y1 Tryd.prog 69 = some (some (Value.agg #[(u8 0), (u8 0), (u8 0), (u8 0), (u8 0), (u8 0), (u8 0), (u8 0), (u8 0), (u8 0), (u8 0), (u8 0), (u8 0), (u8 0), (u8 0), (u8 0), (u8 0), (u8 0), (u8 0), (u8 0), (u8 0), (u8 0), (u8 0), (u8 0), (u8 0), (u8 0), (u8 0), (u8 0), (u8 0), (u8 0), (u8 0), (u8 0), (i64 0), (u8 0), (u8 0), (u8 0), (u8 0), (u8 0), (u8 0), (u8 0), (u8 0), (u8 0), (u8 0), (u8 0), (u8 0), (u8 0), (u8 0), (u8 0), (u8 0), (u8 0), (u8 0), (u8 0), (u8 0), (u8 0), (u8 0), (u8 0), (u8 0), (u8 0), (u8 0), (u8 0), (u8 0), (u8 0), (u8 0), (u8 0), (u8 0)]), 65, 72) := by kernel_rfl
theorem Qey : Y1 Tryd.prog 77 = some (some (agg u8 (List.replicate 12 0)), 12, 12) := by kernel_rfl
theorem ti83 : Y1 Tryd.prog 83 = some (some (Value.slice none 0 0), 1, 24) := by kernel_rfl
theorem Zh : Y1 Tryd.prog 106 = some (some (u32 0), 1, 4) := by kernel_rfl
theorem Zz : Y1 Tryd.prog 109 = some (some (agg i64 (List.replicate 16 0)), 16, 128) := by kernel_rfl
theorem Xh : Y1 Tryd.prog 124 = some (some (u64 0), 1, 8) := by kernel_rfl
theorem Ya : Y1 Tryd.prog 126 = some (some (agg u64 (List.replicate 5 0)), 5, 40) := by kernel_rfl
theorem Fp : Y1 Tryd.prog 129 = some (some (Value.agg #[(u64 0), (u64 0), (u64 0), (u64 0), (u64 0), (u64 0), (u64 0), (u64 0), (u64 0), (u64 0)]), 10, 80) := by kernel_rfl
theorem Qhg : Y1 Tryd.prog 139 = some (some (agg u8 (List.replicate 64 0)), 64, 64) := by kernel_rfl
theorem ti141 : Y1 Tryd.prog 141 = some (some (agg i64 (List.replicate 31 0)), 31, 248) := by kernel_rfl
theorem Qjg : Y1 Tryd.prog 146 = some (some (Value.agg #[(u64 0), (u64 0)]), 2, 16) := by kernel_rfl
theorem ti147 : Y1 Tryd.prog 147 = some (some (agg u64 (List.replicate 10 0)), 10, 80) := by kernel_rfl
theorem V5 : Y1 Tryd.prog 152 = some (some (agg u32 (List.replicate 8 0)), 8, 32) := by kernel_rfl
theorem Qfn : Y1 Tryd.prog 154 = some (some (Value.agg #[(u32 0), (u32 0), (u32 0), (u32 0), (u32 0), (u32 0), (u32 0), (u32 0), (Value.slice none 0 0), (u64 0)]), 10, 64) := by kernel_rfl
theorem Qcu : Y1 Tryd.prog 156 = some (some (agg u32 (List.replicate 16 0)), 16, 64) := by kernel_rfl
theorem Qb0 : Y1 Tryd.prog 159 = some (some (agg i64 (List.replicate 4 0)), 4, 32) := by kernel_rfl
theorem Rt : Y1 Tryd.prog 160 = some (some (agg u32 (List.replicate 64 0)), 64, 256) := by kernel_rfl
theorem Rq : Y1 Tryd.prog 167 = some (some (agg u32 (List.replicate 4 0)), 4, 16) := by kernel_rfl
theorem rM {P : Program} {n : Nat} {ops : Array Oper} {rest : List Oper} {K : (Nat → Value) → World → Prop} {fr : Nat → Value} {w : World} {x : Operand} {ty : TypeId} {pos : String} {aft : Array Edge} {d : Nat} {v : Value} (hd : Nat.blt d n = true) (h : Qv fr x = v) (k : RW P n ops rest K (upd fr d v) w) : RW P n ops (⟨some d, .move x, ty, pos, aft, none⟩ :: rest) K fr w := Qa hd (Qb h) k
theorem rA {P : Program} {n : Nat} {ops : Array Oper} {rest : List Oper} {K : (Nat → Value) → World → Prop} {fr : Nat → Value} {w : World} {x : Operand} {ty : TypeId} {pos : String} {aft : Array Edge} {d : Nat} {v : Value} (hd : Nat.blt d n = true) (h : Qv fr x = v) (k : RW P n ops rest K (upd fr d v) w) : RW P n ops (⟨some d, .assign x, ty, pos, aft, none⟩ :: rest) K fr w := Qa hd (Qc h) k
theorem dM {P : Program} {n : Nat} {l : List Oper} {i : Nat} {r : List (Nat × Bool)} {tail : List Oper} {N : (Nat → Value) → World → Prop} {fr : Nat → Value} {w : World} {x : Operand} {ty : TypeId} {pos : String} {aft : Array Edge} {d : Nat} {v : Value} (ho : l[i]? = some ⟨some d, .move x, ty, pos, aft, none⟩) (hd : Nat.blt d n = true) (h : Qv fr x = v) (k : DW P n l tail N (Ext w) r (upd fr d v) w) : DW P n l tail N (Ext w) ((i, false) :: r) fr w := Qj ho hd (fun _ _ => Qb h) k
theorem rN {P : Program} {n : Nat} {ops : Array Oper} {N : (Nat → Value) → World → Prop} {Q : Exit → (Nat → Value) → World → Prop} {fr : Nat → Value} {w : World} (h : N fr w) : RW P n ops [] (fun fr w => Qae N Q .normal fr w) fr w := Zr (Qh h)
theorem sR {P : Program} {n id : Nat} {l : List Oper} {y : Code} {Q : Exit → (Nat → Value) → World → Prop} {fr : Nat → Value} {w : World} (h : RW P n l.toArray l (fun fr w => Qae (CW P n y Q) Q .normal fr w) fr w) : CW P n (.seq (.region id l.toArray false) y) Q fr w := Qg (Qe h)
theorem oM {p : Prop} (h : p := by omega) : p := h
theorem sD {p : Prop} (h : p := by first | (simp only [List.length_cons, List.length_nil]; done) | omega | (simp; done) | (simp; omega) | decide) : p := h
theorem sL {p : Prop} (h : p := by first | omega | (simp only [List.length_set, List.length_append, List.length_replicate, List.length_map, List.length_cons, List.length_nil]; omega) | (simp; done) | (simp; omega) | decide) : p := h
theorem sZ {p : Prop} (h : p := by rw [Jk]; first | (simp only [List.length_cons, List.length_nil]; done) | omega | (simp; done) | (simp; omega) | decide) : p := h
set_option linter.defProp false in def uT2 := Tryd.underlying2
set_option linter.defProp false in def Fj := Tryd.underlying3
set_option linter.defProp false in def uT4 := Tryd.underlying4
set_option linter.defProp false in def Vm := Tryd.underlying5
set_option linter.defProp false in def uT9 := Tryd.underlying9
set_option linter.defProp false in def X3 := Tryd.underlying23
set_option linter.defProp false in def Dl := Tryd.underlying24
set_option linter.defProp false in def Yu := Tryd.underlying26
set_option linter.defProp false in def Zi := Tryd.underlying27
set_option linter.defProp false in def Qex := Tryd.underlying39
set_option linter.defProp false in def uT53 := Tryd.underlying53
set_option linter.defProp false in def uT65 := Tryd.underlying65
set_option linter.defProp false in def uT69 := Tryd.underlying69
set_option linter.defProp false in def Qah := Tryd.underlying77
set_option linter.defProp false in def Qbt := Tryd.underlying82
set_option linter.defProp false in def Qag := Tryd.underlying83
set_option linter.defProp false in def Xk := Tryd.underlying106
set_option linter.defProp false in def Xx := Tryd.underlying109
set_option linter.defProp false in def uT121 := Tryd.underlying121
set_option linter.defProp false in def X4 := Tryd.underlying124
set_option linter.defProp false in def Xg := Tryd.underlying126
set_option linter.defProp false in def Dn := Tryd.underlying129
set_option linter.defProp false in def uT139 := Tryd.underlying139
set_option linter.defProp false in def Qje := Tryd.underlying141
set_option linter.defProp false in def Qfk := Tryd.underlying146
set_option linter.defProp false in def uT147 := Tryd.underlying147
set_option linter.defProp false in def Yh := Tryd.underlying152
set_option linter.defProp false in def Kq := Tryd.underlying154
set_option linter.defProp false in def U9 := Tryd.underlying156
set_option linter.defProp false in def Dh := Tryd.underlying159
set_option linter.defProp false in def Vj := Tryd.underlying160
set_option linter.defProp false in def Df := Tryd.underlying163
set_option linter.defProp false in def Qhe := Tryd.underlying165
set_option linter.defProp false in def Vh := Tryd.underlying167
abbrev OC (f : Nat) : Prop := ∀ {fr : Nat → Value} {w : World} {xs : Array Operand} {vs : Array Value} {ts : Array TypeId} {ty : TypeId} {Φ : Value → World → Prop}, xs.map (Qv fr) = vs → Xz Tryd.prog f vs w Φ → Yz Tryd.prog fr w (.call ⟨.value (.func f), xs, ts⟩) ty Φ
theorem oc9 : OC 9 := fun h k => Xe Tryd.func9 (by kernel_rfl) (by kernel_rfl) h k
theorem oc10 : OC 10 := fun h k => Xe Tryd.func10 (by kernel_rfl) (by kernel_rfl) h k
theorem oc11 : OC 11 := fun h k => Xe Tryd.func11 (by kernel_rfl) (by kernel_rfl) h k
theorem Ry : OC 12 := fun h k => Xe Tryd.func12 (by kernel_rfl) (by kernel_rfl) h k
theorem oc13 : OC 13 := fun h k => Xe Tryd.func13 (by kernel_rfl) (by kernel_rfl) h k
theorem oc14 : OC 14 := fun h k => Xe Tryd.func14 (by kernel_rfl) (by kernel_rfl) h k
theorem oc15 : OC 15 := fun h k => Xe Tryd.func15 (by kernel_rfl) (by kernel_rfl) h k
theorem oc16 : OC 16 := fun h k => Xe Tryd.func16 (by kernel_rfl) (by kernel_rfl) h k
theorem oc17 : OC 17 := fun h k => Xe Tryd.func17 (by kernel_rfl) (by kernel_rfl) h k
theorem oc18 : OC 18 := fun h k => Xe Tryd.func18 (by kernel_rfl) (by kernel_rfl) h k
theorem oc27 : OC 27 := fun h k => Xe Tryd.func27 (by kernel_rfl) (by kernel_rfl) h k
theorem oc28 : OC 28 := fun h k => Xe Tryd.func28 (by kernel_rfl) (by kernel_rfl) h k
theorem oc29 : OC 29 := fun h k => Xe Tryd.func29 (by kernel_rfl) (by kernel_rfl) h k
theorem oc30 : OC 30 := fun h k => Xe Tryd.func30 (by kernel_rfl) (by kernel_rfl) h k
theorem oc31 : OC 31 := fun h k => Xe Tryd.func31 (by kernel_rfl) (by kernel_rfl) h k
theorem oc32 : OC 32 := fun h k => Xe Tryd.func32 (by kernel_rfl) (by kernel_rfl) h k
theorem oc33 : OC 33 := fun h k => Xe Tryd.func33 (by kernel_rfl) (by kernel_rfl) h k
theorem oc34 : OC 34 := fun h k => Xe Tryd.func34 (by kernel_rfl) (by kernel_rfl) h k
theorem oc35 : OC 35 := fun h k => Xe Tryd.func35 (by kernel_rfl) (by kernel_rfl) h k
theorem oc36 : OC 36 := fun h k => Xe Tryd.func36 (by kernel_rfl) (by kernel_rfl) h k
theorem oc37 : OC 37 := fun h k => Xe Tryd.func37 (by kernel_rfl) (by kernel_rfl) h k
theorem oc38 : OC 38 := fun h k => Xe Tryd.func38 (by kernel_rfl) (by kernel_rfl) h k
theorem oc39 : OC 39 := fun h k => Xe Tryd.func39 (by kernel_rfl) (by kernel_rfl) h k
theorem oc40 : OC 40 := fun h k => Xe Tryd.func40 (by kernel_rfl) (by kernel_rfl) h k
theorem oc41 : OC 41 := fun h k => Xe Tryd.func41 (by kernel_rfl) (by kernel_rfl) h k
theorem oc42 : OC 42 := fun h k => Xe Tryd.func42 (by kernel_rfl) (by kernel_rfl) h k
theorem oc44 : OC 44 := fun h k => Xe Tryd.func44 (by kernel_rfl) (by kernel_rfl) h k
theorem oc45 : OC 45 := fun h k => Xe Tryd.func45 (by kernel_rfl) (by kernel_rfl) h k
theorem oc57 : OC 57 := fun h k => Xe Tryd.func57 (by kernel_rfl) (by kernel_rfl) h k
theorem nm58 : (Tryd.f58.name == "runtime.NumGoroutine") = false := by kernel_rfl
theorem bd58 : Tryd.f58.body.isNone = false := by kernel_rfl
theorem oc59 : OC 59 := fun h k => Xe Tryd.func59 (by kernel_rfl) (by kernel_rfl) h k
theorem oc60 : OC 60 := fun h k => Xe Tryd.func60 (by kernel_rfl) (by kernel_rfl) h k
theorem oc61 : OC 61 := fun h k => Xe Tryd.func61 (by kernel_rfl) (by kernel_rfl) h k
theorem oc62 : OC 62 := fun h k => Xe Tryd.func62 (by kernel_rfl) (by kernel_rfl) h k
theorem oc63 : OC 63 := fun h k => Xe Tryd.func63 (by kernel_rfl) (by kernel_rfl) h k
theorem oc64 : OC 64 := fun h k => Xe Tryd.func64 (by kernel_rfl) (by kernel_rfl) h k
theorem oc65 : OC 65 := fun h k => Xe Tryd.func65 (by kernel_rfl) (by kernel_rfl) h k
theorem Np : OC 66 := fun h k => Xe Tryd.func66 (by kernel_rfl) (by kernel_rfl) h k
theorem oc67 : OC 67 := fun h k => Xe Tryd.func67 (by kernel_rfl) (by kernel_rfl) h k
theorem oc68 : OC 68 := fun h k => Xe Tryd.func68 (by kernel_rfl) (by kernel_rfl) h k
theorem oc69 : OC 69 := fun h k => Xe Tryd.func69 (by kernel_rfl) (by kernel_rfl) h k
theorem oc70 : OC 70 := fun h k => Xe Tryd.func70 (by kernel_rfl) (by kernel_rfl) h k
theorem oc71 : OC 71 := fun h k => Xe Tryd.func71 (by kernel_rfl) (by kernel_rfl) h k
theorem oc72 : OC 72 := fun h k => Xe Tryd.func72 (by kernel_rfl) (by kernel_rfl) h k
theorem oc73 : OC 73 := fun h k => Xe Tryd.func73 (by kernel_rfl) (by kernel_rfl) h k
theorem oc78 : OC 78 := fun h k => Xe Tryd.func78 (by kernel_rfl) (by kernel_rfl) h k
theorem oc79 : OC 79 := fun h k => Xe Tryd.func79 (by kernel_rfl) (by kernel_rfl) h k
theorem oc80 : OC 80 := fun h k => Xe Tryd.func80 (by kernel_rfl) (by kernel_rfl) h k
theorem Qd4 : OC 81 := fun h k => Xe Tryd.func81 (by kernel_rfl) (by kernel_rfl) h k
theorem oc82 : OC 82 := fun h k => Xe Tryd.func82 (by kernel_rfl) (by kernel_rfl) h k
theorem oc83 : OC 83 := fun h k => Xe Tryd.func83 (by kernel_rfl) (by kernel_rfl) h k
theorem oc84 : OC 84 := fun h k => Xe Tryd.func84 (by kernel_rfl) (by kernel_rfl) h k
theorem oc85 : OC 85 := fun h k => Xe Tryd.func85 (by kernel_rfl) (by kernel_rfl) h k
theorem oc86 : OC 86 := fun h k => Xe Tryd.func86 (by kernel_rfl) (by kernel_rfl) h k
theorem oc87 : OC 87 := fun h k => Xe Tryd.func87 (by kernel_rfl) (by kernel_rfl) h k
theorem oc88 : OC 88 := fun h k => Xe Tryd.func88 (by kernel_rfl) (by kernel_rfl) h k
theorem oc89 : OC 89 := fun h k => Xe Tryd.func89 (by kernel_rfl) (by kernel_rfl) h k
theorem oc90 : OC 90 := fun h k => Xe Tryd.func90 (by kernel_rfl) (by kernel_rfl) h k
theorem oc91 : OC 91 := fun h k => Xe Tryd.func91 (by kernel_rfl) (by kernel_rfl) h k
theorem oc92 : OC 92 := fun h k => Xe Tryd.func92 (by kernel_rfl) (by kernel_rfl) h k
theorem oc93 : OC 93 := fun h k => Xe Tryd.func93 (by kernel_rfl) (by kernel_rfl) h k
theorem oc94 : OC 94 := fun h k => Xe Tryd.func94 (by kernel_rfl) (by kernel_rfl) h k
theorem oc95 : OC 95 := fun h k => Xe Tryd.func95 (by kernel_rfl) (by kernel_rfl) h k
theorem oc96 : OC 96 := fun h k => Xe Tryd.func96 (by kernel_rfl) (by kernel_rfl) h k
theorem oc97 : OC 97 := fun h k => Xe Tryd.func97 (by kernel_rfl) (by kernel_rfl) h k
theorem oc98 : OC 98 := fun h k => Xe Tryd.func98 (by kernel_rfl) (by kernel_rfl) h k
theorem oc99 : OC 99 := fun h k => Xe Tryd.func99 (by kernel_rfl) (by kernel_rfl) h k
theorem oc101 : OC 101 := fun h k => Xe Tryd.func101 (by kernel_rfl) (by kernel_rfl) h k
theorem oc102 : OC 102 := fun h k => Xe Tryd.func102 (by kernel_rfl) (by kernel_rfl) h k
theorem oc103 : OC 103 := fun h k => Xe Tryd.func103 (by kernel_rfl) (by kernel_rfl) h k
theorem Qem : OC 104 := fun h k => Xe Tryd.func104 (by kernel_rfl) (by kernel_rfl) h k
theorem oc105 : OC 105 := fun h k => Xe Tryd.func105 (by kernel_rfl) (by kernel_rfl) h k
theorem Qb5 : OC 106 := fun h k => Xe Tryd.func106 (by kernel_rfl) (by kernel_rfl) h k
theorem oc107 : OC 107 := fun h k => Xe Tryd.func107 (by kernel_rfl) (by kernel_rfl) h k
theorem oc108 : OC 108 := fun h k => Xe Tryd.func108 (by kernel_rfl) (by kernel_rfl) h k
theorem oc109 : OC 109 := fun h k => Xe Tryd.func109 (by kernel_rfl) (by kernel_rfl) h k
theorem oc110 : OC 110 := fun h k => Xe Tryd.func110 (by kernel_rfl) (by kernel_rfl) h k
theorem oc111 : OC 111 := fun h k => Xe Tryd.func111 (by kernel_rfl) (by kernel_rfl) h k
theorem Pn : OC 112 := fun h k => Xe Tryd.func112 (by kernel_rfl) (by kernel_rfl) h k
theorem Qay : OC 113 := fun h k => Xe Tryd.func113 (by kernel_rfl) (by kernel_rfl) h k
theorem oc114 : OC 114 := fun h k => Xe Tryd.func114 (by kernel_rfl) (by kernel_rfl) h k
theorem oc115 : OC 115 := fun h k => Xe Tryd.func115 (by kernel_rfl) (by kernel_rfl) h k
end Go.Proofs.YtkmiemlpfkfiiaaDoor
