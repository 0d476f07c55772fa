/- The tables: closed facts on the types and functions of this translation. Conditions: none. -/
import Derived.Test.YtmiagmbgfhakgaaDoorFwJ
import Derived.Test.YtmiagmbgfhakgaaDoorProg
namespace Go.Proofs.YtmiagmbgfhakgaaDoor
theorem ti5 : tinf Tryd.prog 5 = some (some (u8 0), 1, 1) := by kernel_rfl
theorem ti23 : tinf Tryd.prog 23 = some (some (agg u8 (List.replicate 32 0)), 32, 32) := by kernel_rfl
theorem ti26 : tinf Tryd.prog 26 = some (some (Value.slice none 0 0), 1, 24) := by kernel_rfl
theorem ti41 : tinf Tryd.prog 41 = some (some (Value.agg #[(u8 0), (u8 0), (u8 0), (u8 0), (u8 0), (u8 0), (u8 0), (u8 0), (u8 0), (u8 0), (u8 0), (u8 0), (u8 0), (u8 0), (u8 0), (u8 0), (u8 0), (u8 0), (u8 0), (u8 0), (u8 0), (u8 0), (u8 0), (u8 0), (u8 0), (u8 0), (u8 0), (u8 0), (u8 0), (u8 0), (u8 0), (u8 0), (u8 0), (u8 0), (u8 0), (u8 0), (u8 0), (u8 0), (u8 0), (u8 0), (u8 0), (u8 0), (u8 0), (u8 0), (u8 0), (u8 0), (u8 0), (u8 0), (u8 0), (u8 0), (u8 0), (u8 0), (u8 0), (u8 0), (u8 0), (u8 0), (u8 0), (u8 0), (u8 0), (u8 0), (u8 0), (u8 0), (u8 0), (u8 0)]), 64, 64) := by kernel_rfl
theorem ti43 : tinf Tryd.prog 43 = some (some (Value.agg #[(u8 0), (u8 0), (u8 0), (u8 0), (u8 0), (u8 0), (u8 0), (u8 0), (u8 0), (u8 0), (u8 0), (u8 0), (u8 0), (u8 0), (u8 0), (u8 0), (u8 0), (u8 0), (u8 0), (u8 0), (u8 0), (u8 0), (u8 0), (u8 0), (u8 0), (u8 0), (u8 0), (u8 0), (u8 0), (u8 0), (u8 0), (u8 0), (u8 0), (u8 0), (u8 0), (u8 0), (u8 0), (u8 0), (u8 0), (u8 0), (u8 0), (u8 0), (u8 0), (u8 0), (u8 0), (u8 0), (u8 0), (u8 0), (u8 0), (u8 0), (u8 0), (u8 0), (u8 0), (u8 0), (u8 0), (u8 0), (u8 0), (u8 0), (u8 0), (u8 0), (u8 0), (u8 0), (u8 0), (u8 0)]), 64, 64) := by kernel_rfl
theorem ti55 : tinf Tryd.prog 55 = some (some (u32 0), 1, 4) := by kernel_rfl
theorem ti61 : tinf Tryd.prog 61 = some (some (u64 0), 1, 8) := by kernel_rfl
theorem ti94 : tinf Tryd.prog 94 = some (some (agg u32 (List.replicate 8 0)), 8, 32) := by kernel_rfl
theorem ti96 : tinf Tryd.prog 96 = some (some (Value.agg #[(u32 0), (u32 0), (u32 0), (u32 0), (u32 0), (u32 0), (u32 0), (u32 0), (Value.slice none 0 0), (u64 0)]), 10, 64) := by kernel_rfl
theorem ti98 : tinf Tryd.prog 98 = some (some (agg u32 (List.replicate 64 0)), 64, 256) := by kernel_rfl
theorem ti112 : tinf Tryd.prog 112 = some (some (agg u64 (List.replicate 5 0)), 5, 40) := by kernel_rfl
theorem ti115 : tinf Tryd.prog 115 = some (some (Value.agg #[(u64 0), (u64 0), (u64 0), (u64 0), (u64 0), (u64 0), (u64 0), (u64 0), (u64 0), (u64 0)]), 10, 80) := by kernel_rfl
theorem ti128 : tinf Tryd.prog 128 = some (some (Value.agg #[(u64 0), (u64 0)]), 2, 16) := by kernel_rfl
theorem ti129 : tinf Tryd.prog 129 = some (some (agg u64 (List.replicate 10 0)), 10, 80) := by kernel_rfl
theorem rM {P : Program} {n : Nat} {ops : Array Oper} {rest : List Oper} {K : (Nat → Value) → World → Prop} {fr : Nat → Value} {w : World} {x : Operand} {ty : TypeId} {pos : String} {aft : Array Edge} {d : Nat} {v : Value} (hd : Nat.blt d n = true) (h : evalF fr x = v) (k : RW P n ops rest K (upd fr d v) w) : RW P n ops (⟨some d, .move x, ty, pos, aft, none⟩ :: rest) K fr w := rw_q hd (ev_move h) k
theorem rA {P : Program} {n : Nat} {ops : Array Oper} {rest : List Oper} {K : (Nat → Value) → World → Prop} {fr : Nat → Value} {w : World} {x : Operand} {ty : TypeId} {pos : String} {aft : Array Edge} {d : Nat} {v : Value} (hd : Nat.blt d n = true) (h : evalF fr x = v) (k : RW P n ops rest K (upd fr d v) w) : RW P n ops (⟨some d, .assign x, ty, pos, aft, none⟩ :: rest) K fr w := rw_q hd (ev_assign h) k
theorem dM {P : Program} {n : Nat} {l : List Oper} {i : Nat} {r : List (Nat × Bool)} {tail : List Oper} {N : (Nat → Value) → World → Prop} {fr : Nat → Value} {w : World} {x : Operand} {ty : TypeId} {pos : String} {aft : Array Edge} {d : Nat} {v : Value} (ho : l[i]? = some ⟨some d, .move x, ty, pos, aft, none⟩) (hd : Nat.blt d n = true) (h : evalF fr x = v) (k : DW P n l tail N (Ext w) r (upd fr d v) w) : DW P n l tail N (Ext w) ((i, false) :: r) fr w := dw_q ho hd (fun _ _ => ev_move h) k
theorem rN {P : Program} {n : Nat} {ops : Array Oper} {N : (Nat → Value) → World → Prop} {Q : Exit → (Nat → Value) → World → Prop} {fr : Nat → Value} {w : World} (h : N fr w) : RW P n ops [] (fun fr w => kThen N Q .normal fr w) fr w := rw_nil (kThen_normal h)
theorem sR {P : Program} {n id : Nat} {l : List Oper} {y : Code} {Q : Exit → (Nat → Value) → World → Prop} {fr : Nat → Value} {w : World} (h : RW P n l.toArray l (fun fr w => kThen (CW P n y Q) Q .normal fr w) fr w) : CW P n (.seq (.region id l.toArray false) y) Q fr w := cw_seq (cw_region h)
theorem oM {p : Prop} (h : p := by omega) : p := h
theorem sD {p : Prop} (h : p := by first | (simp only [List.length_cons, List.length_nil]; done) | omega | (simp; done) | (simp; omega) | decide) : p := h
theorem sZ {p : Prop} (h : p := by rw [size_cl]; first | (simp only [List.length_cons, List.length_nil]; done) | omega | (simp; done) | (simp; omega) | decide) : p := h
set_option linter.defProp false in def uT3 := Tryd.underlying3
set_option linter.defProp false in def uT5 := Tryd.underlying5
set_option linter.defProp false in def uT9 := Tryd.underlying9
set_option linter.defProp false in def uT23 := Tryd.underlying23
set_option linter.defProp false in def uT26 := Tryd.underlying26
set_option linter.defProp false in def uT41 := Tryd.underlying41
set_option linter.defProp false in def uT43 := Tryd.underlying43
set_option linter.defProp false in def uT55 := Tryd.underlying55
set_option linter.defProp false in def uT57 := Tryd.underlying57
set_option linter.defProp false in def uT61 := Tryd.underlying61
set_option linter.defProp false in def uT71 := Tryd.underlying71
set_option linter.defProp false in def uT94 := Tryd.underlying94
set_option linter.defProp false in def uT96 := Tryd.underlying96
set_option linter.defProp false in def uT97 := Tryd.underlying97
set_option linter.defProp false in def uT98 := Tryd.underlying98
set_option linter.defProp false in def uT112 := Tryd.underlying112
set_option linter.defProp false in def uT115 := Tryd.underlying115
set_option linter.defProp false in def uT128 := Tryd.underlying128
set_option linter.defProp false in def uT129 := Tryd.underlying129
theorem nm19 : (Tryd.f19.name == "runtime.NumGoroutine") = false := by kernel_rfl
theorem bd19 : Tryd.f19.body.isNone = false := by kernel_rfl
theorem nm20 : (Tryd.f20.name == "runtime.NumGoroutine") = false := by kernel_rfl
theorem bd20 : Tryd.f20.body.isNone = false := by kernel_rfl
theorem nm22 : (Tryd.f22.name == "runtime.NumGoroutine") = false := by kernel_rfl
theorem bd22 : Tryd.f22.body.isNone = false := by kernel_rfl
theorem nm24 : (Tryd.f24.name == "runtime.NumGoroutine") = false := by kernel_rfl
theorem bd24 : Tryd.f24.body.isNone = false := by kernel_rfl
theorem nm25 : (Tryd.f25.name == "runtime.NumGoroutine") = false := by kernel_rfl
theorem bd25 : Tryd.f25.body.isNone = false := by kernel_rfl
theorem nm28 : (Tryd.f28.name == "runtime.NumGoroutine") = false := by kernel_rfl
theorem bd28 : Tryd.f28.body.isNone = false := by kernel_rfl
theorem nm32 : (Tryd.f32.name == "runtime.NumGoroutine") = false := by kernel_rfl
theorem bd32 : Tryd.f32.body.isNone = false := by kernel_rfl
theorem nm33 : (Tryd.f33.name == "runtime.NumGoroutine") = false := by kernel_rfl
theorem bd33 : Tryd.f33.body.isNone = false := by kernel_rfl
theorem nm34 : (Tryd.f34.name == "runtime.NumGoroutine") = false := by kernel_rfl
theorem bd34 : Tryd.f34.body.isNone = false := by kernel_rfl
theorem nm35 : (Tryd.f35.name == "runtime.NumGoroutine") = false := by kernel_rfl
theorem bd35 : Tryd.f35.body.isNone = false := by kernel_rfl
theorem nm38 : (Tryd.f38.name == "runtime.NumGoroutine") = false := by kernel_rfl
theorem bd38 : Tryd.f38.body.isNone = false := by kernel_rfl
theorem nm39 : (Tryd.f39.name == "runtime.NumGoroutine") = false := by kernel_rfl
theorem bd39 : Tryd.f39.body.isNone = false := by kernel_rfl
theorem nm41 : (Tryd.f41.name == "runtime.NumGoroutine") = false := by kernel_rfl
theorem bd41 : Tryd.f41.body.isNone = false := by kernel_rfl
theorem nm42 : (Tryd.f42.name == "runtime.NumGoroutine") = false := by kernel_rfl
theorem bd42 : Tryd.f42.body.isNone = false := by kernel_rfl
theorem nm43 : (Tryd.f43.name == "runtime.NumGoroutine") = false := by kernel_rfl
theorem bd43 : Tryd.f43.body.isNone = false := by kernel_rfl
theorem nm44 : (Tryd.f44.name == "runtime.NumGoroutine") = false := by kernel_rfl
theorem bd44 : Tryd.f44.body.isNone = false := by kernel_rfl
theorem nm45 : (Tryd.f45.name == "runtime.NumGoroutine") = false := by kernel_rfl
theorem bd45 : Tryd.f45.body.isNone = false := by kernel_rfl
theorem nm50 : (Tryd.f50.name == "runtime.NumGoroutine") = false := by kernel_rfl
theorem bd50 : Tryd.f50.body.isNone = false := by kernel_rfl
theorem nm51 : (Tryd.f51.name == "runtime.NumGoroutine") = false := by kernel_rfl
theorem bd51 : Tryd.f51.body.isNone = false := by kernel_rfl
theorem nm52 : (Tryd.f52.name == "runtime.NumGoroutine") = false := by kernel_rfl
theorem bd52 : Tryd.f52.body.isNone = false := by kernel_rfl
theorem nm59 : (Tryd.f59.name == "runtime.NumGoroutine") = false := by kernel_rfl
theorem bd59 : Tryd.f59.body.isNone = false := by kernel_rfl
theorem nm60 : (Tryd.f60.name == "runtime.NumGoroutine") = false := by kernel_rfl
theorem bd60 : Tryd.f60.body.isNone = false := by kernel_rfl
theorem nm63 : (Tryd.f63.name == "runtime.NumGoroutine") = false := by kernel_rfl
theorem bd63 : Tryd.f63.body.isNone = false := by kernel_rfl
theorem nm70 : (Tryd.f70.name == "runtime.NumGoroutine") = false := by kernel_rfl
theorem bd70 : Tryd.f70.body.isNone = false := by kernel_rfl
theorem nm71 : (Tryd.f71.name == "runtime.NumGoroutine") = false := by kernel_rfl
theorem bd71 : Tryd.f71.body.isNone = false := by kernel_rfl
theorem nm72 : (Tryd.f72.name == "runtime.NumGoroutine") = false := by kernel_rfl
theorem bd72 : Tryd.f72.body.isNone = false := by kernel_rfl
theorem nm73 : (Tryd.f73.name == "runtime.NumGoroutine") = false := by kernel_rfl
theorem bd73 : Tryd.f73.body.isNone = false := by kernel_rfl
theorem nm74 : (Tryd.f74.name == "runtime.NumGoroutine") = false := by kernel_rfl
theorem bd74 : Tryd.f74.body.isNone = false := by kernel_rfl
theorem nm75 : (Tryd.f75.name == "runtime.NumGoroutine") = false := by kernel_rfl
theorem bd75 : Tryd.f75.body.isNone = false := by kernel_rfl
theorem nm76 : (Tryd.f76.name == "runtime.NumGoroutine") = false := by kernel_rfl
theorem bd76 : Tryd.f76.body.isNone = false := by kernel_rfl
theorem nm80 : (Tryd.f80.name == "runtime.NumGoroutine") = false := by kernel_rfl
theorem bd80 : Tryd.f80.body.isNone = false := by kernel_rfl
theorem nm81 : (Tryd.f81.name == "runtime.NumGoroutine") = false := by kernel_rfl
theorem bd81 : Tryd.f81.body.isNone = false := by kernel_rfl
theorem nm84 : (Tryd.f84.name == "runtime.NumGoroutine") = false := by kernel_rfl
theorem bd84 : Tryd.f84.body.isNone = false := by kernel_rfl
theorem nm85 : (Tryd.f85.name == "runtime.NumGoroutine") = false := by kernel_rfl
theorem bd85 : Tryd.f85.body.isNone = false := by kernel_rfl
theorem nm86 : (Tryd.f86.name == "runtime.NumGoroutine") = false := by kernel_rfl
theorem bd86 : Tryd.f86.body.isNone = false := by kernel_rfl
theorem nm87 : (Tryd.f87.name == "runtime.NumGoroutine") = false := by kernel_rfl
theorem bd87 : Tryd.f87.body.isNone = false := by kernel_rfl
theorem nm89 : (Tryd.f89.name == "runtime.NumGoroutine") = false := by kernel_rfl
theorem bd89 : Tryd.f89.body.isNone = false := by kernel_rfl
end Go.Proofs.YtmiagmbgfhakgaaDoor

