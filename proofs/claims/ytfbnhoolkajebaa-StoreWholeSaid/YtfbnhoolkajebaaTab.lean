/- The tables: closed facts on the types and functions of this translation. Conditions: none. -/
import Derived.Test.YtfbnhoolkajebaaFwQ
import Derived.Test.YtfbnhoolkajebaaFwM
import Derived.Test.YtfbnhoolkajebaaProg
namespace Go.Proofs.Ytfbnhoolkajebaa
theorem ti3 : tinf Try.prog 3 = some (some (i64 0), 1, 8) := by kernel_rfl
theorem ti4 : tinf Try.prog 4 = some (some (bl false), 1, 1) := by kernel_rfl
theorem ti5 : tinf Try.prog 5 = some (some (u8 0), 1, 1) := by kernel_rfl
theorem ti9 : tinf Try.prog 9 = some (some (Value.string ByteArray.empty), 1, 16) := by kernel_rfl
theorem ti22 : tinf Try.prog 22 = some (some (Value.slice none 0 0), 1, 24) := by kernel_rfl
theorem ti23 : tinf Try.prog 23 = some (some (Value.slice none 0 0), 1, 24) := by kernel_rfl
theorem ti25 : tinf Try.prog 25 = some (some (Value.pointer none), 1, 8) := by kernel_rfl
theorem ti26 : tinf Try.prog 26 = some (some (i64 0), 1, 8) := by kernel_rfl
theorem ti29 : tinf Try.prog 29 = some (some (Value.pointer none), 1, 8) := by kernel_rfl
theorem ti40 : tinf Try.prog 40 = some (some (Value.slice none 0 0), 1, 24) := by kernel_rfl
theorem ti55 : tinf Try.prog 55 = some (some (Value.slice none 0 0), 1, 24) := by kernel_rfl
theorem ti79 : tinf Try.prog 79 = some (some (Value.agg #[(Value.string ByteArray.empty), (Value.slice none 0 0), (bl false)]), 3, 48) := by kernel_rfl
theorem ti83 : tinf Try.prog 83 = some (some (agg u8 (List.replicate 64 0)), 64, 64) := by kernel_rfl
theorem ti92 : tinf Try.prog 92 = some (some (Value.slice none 0 0), 1, 24) := by kernel_rfl
theorem ti94 : tinf Try.prog 94 = some (some (Value.agg #[(Value.slice none 0 0), (Value.slice none 0 0)]), 2, 48) := by kernel_rfl
theorem ti95 : tinf Try.prog 95 = some (some (u64 0), 1, 8) := by kernel_rfl
theorem ti97 : tinf Try.prog 97 = some (some (Value.agg #[(i64 0), (i64 0), (u64 0), (Value.slice none 0 0), (i64 0)]), 5, 56) := by kernel_rfl
theorem ti100 : tinf Try.prog 100 = some (some (Value.agg #[(Value.pointer none), (i64 0), (i64 0), (u64 0), (Value.slice none 0 0), (i64 0)]), 6, 64) := by kernel_rfl
theorem ti104 : tinf Try.prog 104 = some (some (Value.agg (segs [[(i64 0)], (List.replicate 64 0).map u8])), 65, 72) := by kernel_rfl
theorem ti116 : tinf Try.prog 116 = some (some (Value.map none), 1, 8) := by kernel_rfl
theorem ti118 : tinf Try.prog 118 = some (some (Value.agg #[(Value.pointer none), (Value.map none)]), 2, 16) := by kernel_rfl
theorem ti145 : tinf Try.prog 145 = some (some (Value.agg #[(u64 0), (u64 0), (u64 0)]), 3, 24) := by kernel_rfl
theorem rM {P : Program} {n : Nat} {ops : Array Oper} {rest : List Oper} {K : (Nat → Value) → World → Prop} {fr : Nat → Value} {w : World} {x : Operand} {ty : TypeId} {pos : String} {aft : Array Edge} {d : Nat} {v : Value} (hd : Nat.blt d n = true) (h : evalF fr x = v) (k : RW P n ops rest K (upd fr d v) w) : RW P n ops (⟨some d, .move x, ty, pos, aft, none⟩ :: rest) K fr w := rw_q hd (ev_move h) k
theorem rA {P : Program} {n : Nat} {ops : Array Oper} {rest : List Oper} {K : (Nat → Value) → World → Prop} {fr : Nat → Value} {w : World} {x : Operand} {ty : TypeId} {pos : String} {aft : Array Edge} {d : Nat} {v : Value} (hd : Nat.blt d n = true) (h : evalF fr x = v) (k : RW P n ops rest K (upd fr d v) w) : RW P n ops (⟨some d, .assign x, ty, pos, aft, none⟩ :: rest) K fr w := rw_q hd (ev_assign h) k
theorem dM {P : Program} {n : Nat} {l : List Oper} {i : Nat} {r : List (Nat × Bool)} {tail : List Oper} {N : (Nat → Value) → World → Prop} {fr : Nat → Value} {w : World} {x : Operand} {ty : TypeId} {pos : String} {aft : Array Edge} {d : Nat} {v : Value} (ho : l[i]? = some ⟨some d, .move x, ty, pos, aft, none⟩) (hd : Nat.blt d n = true) (h : evalF fr x = v) (k : DW P n l tail N (Ext w) r (upd fr d v) w) : DW P n l tail N (Ext w) ((i, false) :: r) fr w := dw_q ho hd (fun _ _ => ev_move h) k
theorem rN {P : Program} {n : Nat} {ops : Array Oper} {N : (Nat → Value) → World → Prop} {Q : Exit → (Nat → Value) → World → Prop} {fr : Nat → Value} {w : World} (h : N fr w) : RW P n ops [] (fun fr w => kThen N Q .normal fr w) fr w := rw_nil (kThen_normal h)
theorem sR {P : Program} {n id : Nat} {l : List Oper} {y : Code} {Q : Exit → (Nat → Value) → World → Prop} {fr : Nat → Value} {w : World} (h : RW P n l.toArray l (fun fr w => kThen (CW P n y Q) Q .normal fr w) fr w) : CW P n (.seq (.region id l.toArray false) y) Q fr w := cw_seq (cw_region h)
theorem oM {p : Prop} (h : p := by omega) : p := h
theorem sD {p : Prop} (h : p := by first | (simp only [List.length_cons, List.length_nil]; done) | omega | (simp; done) | (simp; omega) | decide) : p := h
theorem sL {p : Prop} (h : p := by first | omega | (simp only [List.length_set, List.length_append, List.length_replicate, List.length_map, List.length_cons, List.length_nil]; omega) | (simp; done) | (simp; omega) | decide) : p := h
set_option linter.defProp false in def uT0 := Try.underlying0
set_option linter.defProp false in def uT3 := Try.underlying3
set_option linter.defProp false in def uT4 := Try.underlying4
set_option linter.defProp false in def uT5 := Try.underlying5
set_option linter.defProp false in def uT9 := Try.underlying9
set_option linter.defProp false in def uT20 := Try.underlying20
set_option linter.defProp false in def uT22 := Try.underlying22
set_option linter.defProp false in def uT23 := Try.underlying23
set_option linter.defProp false in def uT25 := Try.underlying25
set_option linter.defProp false in def uT26 := Try.underlying26
set_option linter.defProp false in def uT29 := Try.underlying29
set_option linter.defProp false in def uT40 := Try.underlying40
set_option linter.defProp false in def uT55 := Try.underlying55
set_option linter.defProp false in def uT68 := Try.underlying68
set_option linter.defProp false in def uT70 := Try.underlying70
set_option linter.defProp false in def uT76 := Try.underlying76
set_option linter.defProp false in def uT79 := Try.underlying79
set_option linter.defProp false in def uT83 := Try.underlying83
set_option linter.defProp false in def uT92 := Try.underlying92
set_option linter.defProp false in def uT94 := Try.underlying94
set_option linter.defProp false in def uT95 := Try.underlying95
set_option linter.defProp false in def uT97 := Try.underlying97
set_option linter.defProp false in def uT100 := Try.underlying100
set_option linter.defProp false in def uT104 := Try.underlying104
set_option linter.defProp false in def uT113 := Try.underlying113
set_option linter.defProp false in def uT116 := Try.underlying116
set_option linter.defProp false in def uT118 := Try.underlying118
set_option linter.defProp false in def uT138 := Try.underlying138
set_option linter.defProp false in def uT139 := Try.underlying139
set_option linter.defProp false in def uT145 := Try.underlying145
set_option linter.defProp false in def uT149 := Try.underlying149
set_option linter.defProp false in def uT151 := Try.underlying151
set_option linter.defProp false in def uT152 := Try.underlying152
set_option linter.defProp false in def uT156 := Try.underlying156
set_option linter.defProp false in def uT159 := Try.underlying159
set_option linter.defProp false in def uT162 := Try.underlying162
set_option linter.defProp false in def uT166 := Try.underlying166
set_option linter.defProp false in def uT168 := Try.underlying168
set_option linter.defProp false in def uT169 := Try.underlying169
theorem nm13 : (Try.f13.name == "runtime.NumGoroutine") = false := by kernel_rfl
theorem bd13 : Try.f13.body.isNone = false := by kernel_rfl
theorem nm14 : (Try.f14.name == "runtime.NumGoroutine") = false := by kernel_rfl
theorem bd14 : Try.f14.body.isNone = false := by kernel_rfl
theorem nm15 : (Try.f15.name == "runtime.NumGoroutine") = false := by kernel_rfl
theorem bd15 : Try.f15.body.isNone = false := by kernel_rfl
theorem nm16 : (Try.f16.name == "runtime.NumGoroutine") = false := by kernel_rfl
theorem bd16 : Try.f16.body.isNone = false := by kernel_rfl
theorem nm17 : (Try.f17.name == "runtime.NumGoroutine") = false := by kernel_rfl
theorem bd17 : Try.f17.body.isNone = false := by kernel_rfl
theorem nm19 : (Try.f19.name == "runtime.NumGoroutine") = false := by kernel_rfl
theorem bd19 : Try.f19.body.isNone = false := by kernel_rfl
theorem nm21 : (Try.f21.name == "runtime.NumGoroutine") = false := by kernel_rfl
theorem bd21 : Try.f21.body.isNone = false := by kernel_rfl
theorem nm25 : (Try.f25.name == "runtime.NumGoroutine") = false := by kernel_rfl
theorem bd25 : Try.f25.body.isNone = false := by kernel_rfl
theorem nm30 : (Try.f30.name == "runtime.NumGoroutine") = false := by kernel_rfl
theorem bd30 : Try.f30.body.isNone = false := by kernel_rfl
theorem nm31 : (Try.f31.name == "runtime.NumGoroutine") = false := by kernel_rfl
theorem bd31 : Try.f31.body.isNone = false := by kernel_rfl
theorem nm32 : (Try.f32.name == "runtime.NumGoroutine") = false := by kernel_rfl
theorem bd32 : Try.f32.body.isNone = false := by kernel_rfl
theorem nm34 : (Try.f34.name == "runtime.NumGoroutine") = false := by kernel_rfl
theorem bd34 : Try.f34.body.isNone = false := by kernel_rfl
theorem nm36 : (Try.f36.name == "runtime.NumGoroutine") = false := by kernel_rfl
theorem bd36 : Try.f36.body.isNone = false := by kernel_rfl
theorem nm38 : (Try.f38.name == "runtime.NumGoroutine") = false := by kernel_rfl
theorem bd38 : Try.f38.body.isNone = false := by kernel_rfl
theorem nm39 : (Try.f39.name == "runtime.NumGoroutine") = false := by kernel_rfl
theorem bd39 : Try.f39.body.isNone = false := by kernel_rfl
theorem nm40 : (Try.f40.name == "runtime.NumGoroutine") = false := by kernel_rfl
theorem bd40 : Try.f40.body.isNone = false := by kernel_rfl
theorem nm41 : (Try.f41.name == "runtime.NumGoroutine") = false := by kernel_rfl
theorem bd41 : Try.f41.body.isNone = false := by kernel_rfl
theorem nm42 : (Try.f42.name == "runtime.NumGoroutine") = false := by kernel_rfl
theorem bd42 : Try.f42.body.isNone = false := by kernel_rfl
theorem nm43 : (Try.f43.name == "runtime.NumGoroutine") = false := by kernel_rfl
theorem bd43 : Try.f43.body.isNone = false := by kernel_rfl
theorem nm45 : (Try.f45.name == "runtime.NumGoroutine") = false := by kernel_rfl
theorem bd45 : Try.f45.body.isNone = false := by kernel_rfl
theorem nm46 : (Try.f46.name == "runtime.NumGoroutine") = false := by kernel_rfl
theorem bd46 : Try.f46.body.isNone = false := by kernel_rfl
theorem nm47 : (Try.f47.name == "runtime.NumGoroutine") = false := by kernel_rfl
theorem bd47 : Try.f47.body.isNone = false := by kernel_rfl
theorem nm48 : (Try.f48.name == "runtime.NumGoroutine") = false := by kernel_rfl
theorem bd48 : Try.f48.body.isNone = false := by kernel_rfl
theorem nm49 : (Try.f49.name == "runtime.NumGoroutine") = false := by kernel_rfl
theorem bd49 : Try.f49.body.isNone = false := by kernel_rfl
theorem nm50 : (Try.f50.name == "runtime.NumGoroutine") = false := by kernel_rfl
theorem bd50 : Try.f50.body.isNone = false := by kernel_rfl
theorem nm51 : (Try.f51.name == "runtime.NumGoroutine") = false := by kernel_rfl
theorem bd51 : Try.f51.body.isNone = false := by kernel_rfl
theorem nm52 : (Try.f52.name == "runtime.NumGoroutine") = false := by kernel_rfl
theorem bd52 : Try.f52.body.isNone = false := by kernel_rfl
theorem nm53 : (Try.f53.name == "runtime.NumGoroutine") = false := by kernel_rfl
theorem bd53 : Try.f53.body.isNone = false := by kernel_rfl
theorem nm54 : (Try.f54.name == "runtime.NumGoroutine") = false := by kernel_rfl
theorem bd54 : Try.f54.body.isNone = false := by kernel_rfl
theorem nm55 : (Try.f55.name == "runtime.NumGoroutine") = false := by kernel_rfl
theorem bd55 : Try.f55.body.isNone = false := by kernel_rfl
theorem nm58 : (Try.f58.name == "runtime.NumGoroutine") = false := by kernel_rfl
theorem bd58 : Try.f58.body.isNone = false := by kernel_rfl
theorem nm59 : (Try.f59.name == "runtime.NumGoroutine") = false := by kernel_rfl
theorem bd59 : Try.f59.body.isNone = false := by kernel_rfl
theorem nm61 : (Try.f61.name == "runtime.NumGoroutine") = false := by kernel_rfl
theorem bd61 : Try.f61.body.isNone = false := by kernel_rfl
theorem nm62 : (Try.f62.name == "runtime.NumGoroutine") = false := by kernel_rfl
theorem bd62 : Try.f62.body.isNone = false := by kernel_rfl
theorem nm63 : (Try.f63.name == "runtime.NumGoroutine") = false := by kernel_rfl
theorem bd63 : Try.f63.body.isNone = false := by kernel_rfl
theorem nm64 : (Try.f64.name == "runtime.NumGoroutine") = false := by kernel_rfl
theorem bd64 : Try.f64.body.isNone = false := by kernel_rfl
theorem nm65 : (Try.f65.name == "runtime.NumGoroutine") = false := by kernel_rfl
theorem bd65 : Try.f65.body.isNone = false := by kernel_rfl
theorem nm66 : (Try.f66.name == "runtime.NumGoroutine") = false := by kernel_rfl
theorem bd66 : Try.f66.body.isNone = false := by kernel_rfl
theorem nm67 : (Try.f67.name == "runtime.NumGoroutine") = false := by kernel_rfl
theorem bd67 : Try.f67.body.isNone = false := by kernel_rfl
theorem nm68 : (Try.f68.name == "runtime.NumGoroutine") = false := by kernel_rfl
theorem bd68 : Try.f68.body.isNone = false := by kernel_rfl
theorem nm69 : (Try.f69.name == "runtime.NumGoroutine") = false := by kernel_rfl
theorem bd69 : Try.f69.body.isNone = false := by kernel_rfl
theorem nm70 : (Try.f70.name == "runtime.NumGoroutine") = false := by kernel_rfl
theorem bd70 : Try.f70.body.isNone = false := by kernel_rfl
theorem nm71 : (Try.f71.name == "runtime.NumGoroutine") = false := by kernel_rfl
theorem bd71 : Try.f71.body.isNone = false := by kernel_rfl
theorem nm72 : (Try.f72.name == "runtime.NumGoroutine") = false := by kernel_rfl
theorem bd72 : Try.f72.body.isNone = false := by kernel_rfl
theorem nm73 : (Try.f73.name == "runtime.NumGoroutine") = false := by kernel_rfl
theorem bd73 : Try.f73.body.isNone = false := by kernel_rfl
theorem nm79 : (Try.f79.name == "runtime.NumGoroutine") = false := by kernel_rfl
theorem bd79 : Try.f79.body.isNone = false := by kernel_rfl
theorem nm80 : (Try.f80.name == "runtime.NumGoroutine") = false := by kernel_rfl
theorem bd80 : Try.f80.body.isNone = false := by kernel_rfl
theorem nm81 : (Try.f81.name == "runtime.NumGoroutine") = false := by kernel_rfl
theorem bd81 : Try.f81.body.isNone = false := by kernel_rfl
theorem nm84 : (Try.f84.name == "runtime.NumGoroutine") = false := by kernel_rfl
theorem bd84 : Try.f84.body.isNone = false := by kernel_rfl
theorem nm85 : (Try.f85.name == "runtime.NumGoroutine") = false := by kernel_rfl
theorem bd85 : Try.f85.body.isNone = false := by kernel_rfl
theorem nm86 : (Try.f86.name == "runtime.NumGoroutine") = false := by kernel_rfl
theorem bd86 : Try.f86.body.isNone = false := by kernel_rfl
theorem nm87 : (Try.f87.name == "runtime.NumGoroutine") = false := by kernel_rfl
theorem bd87 : Try.f87.body.isNone = false := by kernel_rfl
theorem nm88 : (Try.f88.name == "runtime.NumGoroutine") = false := by kernel_rfl
theorem bd88 : Try.f88.body.isNone = false := by kernel_rfl
end Go.Proofs.Ytfbnhoolkajebaa
