/- The tables: closed facts on the types and functions of this translation. Conditions: none. -/
import Derived.Test.YtmiagmbgfhakgaaDoorFwJ
import Derived.Test.YtmiagmbgfhakgaaDoorProg
namespace Go.Proofs.YtmiagmbgfhakgaaDoor
theorem ti3 : tinf Tryd.prog 3 = some (some (i64 0), 1, 8) := by kernel_rfl
theorem ti5 : tinf Tryd.prog 5 = some (some (u8 0), 1, 1) := by kernel_rfl
theorem ti23 : tinf Tryd.prog 23 = some (some (agg u8 (List.replicate 32 0)), 32, 32) := by kernel_rfl
theorem ti25 : tinf Tryd.prog 25 = some (some (agg u8 (List.replicate 12 0)), 12, 12) := by kernel_rfl
theorem ti26 : tinf Tryd.prog 26 = some (some (Value.slice none 0 0), 1, 24) := by kernel_rfl
theorem ti55 : tinf Tryd.prog 55 = some (some (u32 0), 1, 4) := by kernel_rfl
theorem ti61 : tinf Tryd.prog 61 = some (some (u64 0), 1, 8) := by kernel_rfl
theorem ti69 : tinf Tryd.prog 69 = some (some (agg u8 (List.replicate 64 0)), 64, 64) := by kernel_rfl
theorem ti90 : tinf Tryd.prog 90 = some (some (agg u32 (List.replicate 16 0)), 16, 64) := by kernel_rfl
theorem ti93 : tinf Tryd.prog 93 = some (some (agg i64 (List.replicate 4 0)), 4, 32) := by kernel_rfl
theorem ti94 : tinf Tryd.prog 94 = some (some (agg u32 (List.replicate 8 0)), 8, 32) := by kernel_rfl
theorem ti96 : tinf Tryd.prog 96 = some (some (Value.agg #[(u32 0), (u32 0), (u32 0), (u32 0), (u32 0), (u32 0), (u32 0), (u32 0), (Value.slice none 0 0), (u64 0)]), 10, 64) := by kernel_rfl
theorem ti98 : tinf Tryd.prog 98 = some (some (agg u32 (List.replicate 64 0)), 64, 256) := by kernel_rfl
theorem ti105 : tinf Tryd.prog 105 = some (some (agg u32 (List.replicate 4 0)), 4, 16) := by kernel_rfl
theorem ti107 : tinf Tryd.prog 107 = some (some (Value.slice none 0 0), 1, 24) := by kernel_rfl
theorem rM {P : Program} {n : Nat} {ops : Array Oper} {rest : List Oper} {K : (Nat → Value) → World → Prop} {fr : Nat → Value} {w : World} {x : Operand} {ty : TypeId} {pos : String} {aft : Array Edge} {d : Nat} {v : Value} (hd : Nat.blt d n = true) (h : evalF fr x = v) (k : RW P n ops rest K (upd fr d v) w) : RW P n ops (⟨some d, .move x, ty, pos, aft, none⟩ :: rest) K fr w := rw_q hd (ev_move h) k
theorem rA {P : Program} {n : Nat} {ops : Array Oper} {rest : List Oper} {K : (Nat → Value) → World → Prop} {fr : Nat → Value} {w : World} {x : Operand} {ty : TypeId} {pos : String} {aft : Array Edge} {d : Nat} {v : Value} (hd : Nat.blt d n = true) (h : evalF fr x = v) (k : RW P n ops rest K (upd fr d v) w) : RW P n ops (⟨some d, .assign x, ty, pos, aft, none⟩ :: rest) K fr w := rw_q hd (ev_assign h) k
theorem dM {P : Program} {n : Nat} {l : List Oper} {i : Nat} {r : List (Nat × Bool)} {tail : List Oper} {N : (Nat → Value) → World → Prop} {fr : Nat → Value} {w : World} {x : Operand} {ty : TypeId} {pos : String} {aft : Array Edge} {d : Nat} {v : Value} (ho : l[i]? = some ⟨some d, .move x, ty, pos, aft, none⟩) (hd : Nat.blt d n = true) (h : evalF fr x = v) (k : DW P n l tail N (Ext w) r (upd fr d v) w) : DW P n l tail N (Ext w) ((i, false) :: r) fr w := dw_q ho hd (fun _ _ => ev_move h) k
theorem oM {p : Prop} (h : p := by omega) : p := h
theorem sD {p : Prop} (h : p := by first | omega | (simp; done) | (simp; omega) | decide) : p := h
theorem sZ {p : Prop} (h : p := by rw [size_cl]; first | omega | (simp; done) | (simp; omega) | decide) : p := h
set_option linter.defProp false in def uT3 := Tryd.underlying3
set_option linter.defProp false in def uT5 := Tryd.underlying5
set_option linter.defProp false in def uT9 := Tryd.underlying9
set_option linter.defProp false in def uT23 := Tryd.underlying23
set_option linter.defProp false in def uT25 := Tryd.underlying25
set_option linter.defProp false in def uT26 := Tryd.underlying26
set_option linter.defProp false in def uT55 := Tryd.underlying55
set_option linter.defProp false in def uT57 := Tryd.underlying57
set_option linter.defProp false in def uT61 := Tryd.underlying61
set_option linter.defProp false in def uT69 := Tryd.underlying69
set_option linter.defProp false in def uT71 := Tryd.underlying71
set_option linter.defProp false in def uT90 := Tryd.underlying90
set_option linter.defProp false in def uT93 := Tryd.underlying93
set_option linter.defProp false in def uT94 := Tryd.underlying94
set_option linter.defProp false in def uT96 := Tryd.underlying96
set_option linter.defProp false in def uT97 := Tryd.underlying97
set_option linter.defProp false in def uT98 := Tryd.underlying98
set_option linter.defProp false in def uT101 := Tryd.underlying101
set_option linter.defProp false in def uT103 := Tryd.underlying103
set_option linter.defProp false in def uT105 := Tryd.underlying105
set_option linter.defProp false in def uT107 := Tryd.underlying107
theorem nm10 : (Tryd.f10.name == "runtime.NumGoroutine") = false := by kernel_rfl
theorem bd10 : Tryd.f10.body.isNone = false := by kernel_rfl
theorem nm11 : (Tryd.f11.name == "runtime.NumGoroutine") = false := by kernel_rfl
theorem bd11 : Tryd.f11.body.isNone = false := by kernel_rfl
theorem nm12 : (Tryd.f12.name == "runtime.NumGoroutine") = false := by kernel_rfl
theorem bd12 : Tryd.f12.body.isNone = false := by kernel_rfl
theorem nm13 : (Tryd.f13.name == "runtime.NumGoroutine") = false := by kernel_rfl
theorem bd13 : Tryd.f13.body.isNone = false := by kernel_rfl
theorem nm14 : (Tryd.f14.name == "runtime.NumGoroutine") = false := by kernel_rfl
theorem bd14 : Tryd.f14.body.isNone = false := by kernel_rfl
theorem nm16 : (Tryd.f16.name == "runtime.NumGoroutine") = false := by kernel_rfl
theorem bd16 : Tryd.f16.body.isNone = false := by kernel_rfl
theorem nm17 : (Tryd.f17.name == "runtime.NumGoroutine") = false := by kernel_rfl
theorem bd17 : Tryd.f17.body.isNone = false := by kernel_rfl
theorem nm18 : (Tryd.f18.name == "runtime.NumGoroutine") = false := by kernel_rfl
theorem bd18 : Tryd.f18.body.isNone = false := by kernel_rfl
theorem nm26 : (Tryd.f26.name == "runtime.NumGoroutine") = false := by kernel_rfl
theorem bd26 : Tryd.f26.body.isNone = false := by kernel_rfl
theorem nm27 : (Tryd.f27.name == "runtime.NumGoroutine") = false := by kernel_rfl
theorem bd27 : Tryd.f27.body.isNone = false := by kernel_rfl
theorem nm28 : (Tryd.f28.name == "runtime.NumGoroutine") = false := by kernel_rfl
theorem bd28 : Tryd.f28.body.isNone = false := by kernel_rfl
theorem nm29 : (Tryd.f29.name == "runtime.NumGoroutine") = false := by kernel_rfl
theorem bd29 : Tryd.f29.body.isNone = false := by kernel_rfl
theorem nm30 : (Tryd.f30.name == "runtime.NumGoroutine") = false := by kernel_rfl
theorem bd30 : Tryd.f30.body.isNone = false := by kernel_rfl
theorem nm31 : (Tryd.f31.name == "runtime.NumGoroutine") = false := by kernel_rfl
theorem bd31 : Tryd.f31.body.isNone = false := by kernel_rfl
theorem nm32 : (Tryd.f32.name == "runtime.NumGoroutine") = false := by kernel_rfl
theorem bd32 : Tryd.f32.body.isNone = false := by kernel_rfl
theorem nm39 : (Tryd.f39.name == "runtime.NumGoroutine") = false := by kernel_rfl
theorem bd39 : Tryd.f39.body.isNone = false := by kernel_rfl
theorem nm40 : (Tryd.f40.name == "runtime.NumGoroutine") = false := by kernel_rfl
theorem bd40 : Tryd.f40.body.isNone = false := by kernel_rfl
theorem nm41 : (Tryd.f41.name == "runtime.NumGoroutine") = false := by kernel_rfl
theorem bd41 : Tryd.f41.body.isNone = false := by kernel_rfl
theorem nm42 : (Tryd.f42.name == "runtime.NumGoroutine") = false := by kernel_rfl
theorem bd42 : Tryd.f42.body.isNone = false := by kernel_rfl
theorem nm43 : (Tryd.f43.name == "runtime.NumGoroutine") = false := by kernel_rfl
theorem bd43 : Tryd.f43.body.isNone = false := by kernel_rfl
theorem nm44 : (Tryd.f44.name == "runtime.NumGoroutine") = false := by kernel_rfl
theorem bd44 : Tryd.f44.body.isNone = false := by kernel_rfl
theorem nm45 : (Tryd.f45.name == "runtime.NumGoroutine") = false := by kernel_rfl
theorem bd45 : Tryd.f45.body.isNone = false := by kernel_rfl
theorem nm46 : (Tryd.f46.name == "runtime.NumGoroutine") = false := by kernel_rfl
theorem bd46 : Tryd.f46.body.isNone = false := by kernel_rfl
theorem nm47 : (Tryd.f47.name == "runtime.NumGoroutine") = false := by kernel_rfl
theorem bd47 : Tryd.f47.body.isNone = false := by kernel_rfl
theorem nm48 : (Tryd.f48.name == "runtime.NumGoroutine") = false := by kernel_rfl
theorem bd48 : Tryd.f48.body.isNone = false := by kernel_rfl
theorem nm49 : (Tryd.f49.name == "runtime.NumGoroutine") = false := by kernel_rfl
theorem bd49 : Tryd.f49.body.isNone = false := by kernel_rfl
theorem nm59 : (Tryd.f59.name == "runtime.NumGoroutine") = false := by kernel_rfl
theorem bd59 : Tryd.f59.body.isNone = false := by kernel_rfl
theorem nm60 : (Tryd.f60.name == "runtime.NumGoroutine") = false := by kernel_rfl
theorem bd60 : Tryd.f60.body.isNone = false := by kernel_rfl
theorem nm61 : (Tryd.f61.name == "runtime.NumGoroutine") = false := by kernel_rfl
theorem bd61 : Tryd.f61.body.isNone = false := by kernel_rfl
theorem nm62 : (Tryd.f62.name == "runtime.NumGoroutine") = false := by kernel_rfl
theorem bd62 : Tryd.f62.body.isNone = false := by kernel_rfl
theorem nm63 : (Tryd.f63.name == "runtime.NumGoroutine") = false := by kernel_rfl
theorem bd63 : Tryd.f63.body.isNone = false := by kernel_rfl
theorem nm64 : (Tryd.f64.name == "runtime.NumGoroutine") = false := by kernel_rfl
theorem bd64 : Tryd.f64.body.isNone = false := by kernel_rfl
theorem nm65 : (Tryd.f65.name == "runtime.NumGoroutine") = false := by kernel_rfl
theorem bd65 : Tryd.f65.body.isNone = false := by kernel_rfl
theorem nm66 : (Tryd.f66.name == "runtime.NumGoroutine") = false := by kernel_rfl
theorem bd66 : Tryd.f66.body.isNone = false := by kernel_rfl
theorem nm67 : (Tryd.f67.name == "runtime.NumGoroutine") = false := by kernel_rfl
theorem bd67 : Tryd.f67.body.isNone = false := by kernel_rfl
theorem nm68 : (Tryd.f68.name == "runtime.NumGoroutine") = false := by kernel_rfl
theorem bd68 : Tryd.f68.body.isNone = false := by kernel_rfl
theorem nm78 : (Tryd.f78.name == "runtime.NumGoroutine") = false := by kernel_rfl
theorem bd78 : Tryd.f78.body.isNone = false := by kernel_rfl
theorem nm79 : (Tryd.f79.name == "runtime.NumGoroutine") = false := by kernel_rfl
theorem bd79 : Tryd.f79.body.isNone = false := by kernel_rfl
theorem nm80 : (Tryd.f80.name == "runtime.NumGoroutine") = false := by kernel_rfl
theorem bd80 : Tryd.f80.body.isNone = false := by kernel_rfl
theorem nm81 : (Tryd.f81.name == "runtime.NumGoroutine") = false := by kernel_rfl
theorem bd81 : Tryd.f81.body.isNone = false := by kernel_rfl
theorem nm82 : (Tryd.f82.name == "runtime.NumGoroutine") = false := by kernel_rfl
theorem bd82 : Tryd.f82.body.isNone = false := by kernel_rfl
end Go.Proofs.YtmiagmbgfhakgaaDoor

