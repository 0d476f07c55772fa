/- The tables: closed facts on the types and functions of this translation. Conditions: none. -/
import Derived.Test.YtkmiemlpfkfiiaaDoorFwQ
import Derived.Test.YtkmiemlpfkfiiaaDoorFwJ
import Derived.Test.YtkmiemlpfkfiiaaDoorProg
namespace Go.Proofs.YtkmiemlpfkfiiaaDoor
theorem Uz : Yp Tryd.prog 3 = some (some (i64 0), 1, 8) := by kernel_rfl
theorem Lm : Yp Tryd.prog 4 = some (some (bl false), 1, 1) := by kernel_rfl
theorem Yq : Yp Tryd.prog 5 = some (some (u8 0), 1, 1) := by kernel_rfl
theorem Z5 : Yp Tryd.prog 23 = some (some (agg u8 (List.replicate 32 0)), 32, 32) := by kernel_rfl
theorem U6 : Yp Tryd.prog 24 = some (some (Value.slice none 0 0), 1, 24) := by kernel_rfl
theorem J6 : Yp Tryd.prog 26 = some (some (Value.agg (Qr [(List.replicate 32 0).map u8, (List.replicate 32 0).map u8, (List.replicate 32 0).map u8, [(bl false)], [(bl false)], (List.replicate 32 0).map u8, (List.replicate 32 0).map u8, [(i64 0)], [(i64 0)], [(i64 0)], [(Value.slice none 0 0)]])), 166, 216) := by kernel_rfl
theorem Aj : Yp Tryd.prog 27 = some (some (Value.slice none 0 0), 1, 24) := by kernel_rfl
theorem ti39 : Yp Tryd.prog 39 = some (some (Value.agg #[(u8 0), (u8 0), (u8 0), (u8 0), (u8 0), (u8 0), (u8 0), (u8 0), (u8 0), (u8 0), (u8 0), (u8 0), (u8 0), (u8 0), (u8 0), (u8 0), (u8 0), (u8 0), (u8 0), (u8 0), (u8 0), (u8 0), (u8 0), (u8 0), (u8 0), (u8 0), (u8 0), (u8 0), (u8 0), (u8 0), (u8 0), (u8 0), (u8 0), (u8 0), (u8 0), (u8 0), (u8 0), (u8 0), (u8 0), (u8 0), (u8 0), (u8 0), (u8 0), (u8 0), (u8 0), (u8 0), (u8 0), (u8 0), (u8 0), (u8 0), (u8 0), (u8 0), (u8 0), (u8 0), (u8 0), (u8 0), (u8 0), (u8 0), (u8 0), (u8 0), (u8 0), (u8 0), (u8 0), (u8 0)]), 64, 64) := by kernel_rfl
theorem ti53 : Yp Tryd.prog 53 = some (some (Value.agg #[(u8 0), (u8 0), (u8 0), (u8 0), (u8 0), (u8 0), (u8 0), (u8 0), (u8 0), (u8 0), (u8 0), (u8 0), (u8 0), (u8 0), (u8 0), (u8 0), (u8 0), (u8 0), (u8 0), (u8 0), (u8 0), (u8 0), (u8 0), (u8 0), (u8 0), (u8 0), (u8 0), (u8 0), (u8 0), (u8 0), (u8 0), (u8 0), (i64 0), (i64 0)]), 34, 48) := by kernel_rfl
theorem F6 : Yp Tryd.prog 69 = some (some (Value.agg #[(u8 0), (u8 0), (u8 0), (u8 0), (u8 0), (u8 0), (u8 0), (u8 0), (u8 0), (u8 0), (u8 0), (u8 0), (u8 0), (u8 0), (u8 0), (u8 0), (u8 0), (u8 0), (u8 0), (u8 0), (u8 0), (u8 0), (u8 0), (u8 0), (u8 0), (u8 0), (u8 0), (u8 0), (u8 0), (u8 0), (u8 0), (u8 0), (i64 0), (u8 0), (u8 0), (u8 0), (u8 0), (u8 0), (u8 0), (u8 0), (u8 0), (u8 0), (u8 0), (u8 0), (u8 0), (u8 0), (u8 0), (u8 0), (u8 0), (u8 0), (u8 0), (u8 0), (u8 0), (u8 0), (u8 0), (u8 0), (u8 0), (u8 0), (u8 0), (u8 0), (u8 0), (u8 0), (u8 0), (u8 0), (u8 0)]), 65, 72) := by kernel_rfl
theorem ti77 : Yp Tryd.prog 77 = some (some (agg u8 (List.replicate 12 0)), 12, 12) := by kernel_rfl
theorem ti87 : Yp Tryd.prog 87 = some (some (Value.pointer none), 1, 8) := by kernel_rfl
theorem ti89 : Yp Tryd.prog 89 = some (some (Value.pointer none), 1, 8) := by kernel_rfl
theorem Xb : Yp Tryd.prog 106 = some (some (u32 0), 1, 4) := by kernel_rfl
theorem Qe0 : Yp Tryd.prog 120 = some (some (Value.agg #[(u8 0), (u8 0), (u8 0), (u8 0), (u8 0), (u8 0), (u8 0), (u8 0), (u8 0), (u8 0), (u8 0), (u8 0), (u8 0), (u8 0), (u8 0), (u8 0), (u8 0), (u8 0), (u8 0), (u8 0), (u8 0), (u8 0), (u8 0), (u8 0), (u8 0), (u8 0), (u8 0), (u8 0), (u8 0), (u8 0), (u8 0), (u8 0), (i64 0)]), 33, 40) := by kernel_rfl
theorem Z8 : Yp Tryd.prog 124 = some (some (u64 0), 1, 8) := by kernel_rfl
theorem Xm : Yp Tryd.prog 126 = some (some (agg u64 (List.replicate 5 0)), 5, 40) := by kernel_rfl
theorem Gx : Yp Tryd.prog 129 = some (some (Value.agg #[(u64 0), (u64 0), (u64 0), (u64 0), (u64 0), (u64 0), (u64 0), (u64 0), (u64 0), (u64 0)]), 10, 80) := by kernel_rfl
theorem Qdk : Yp Tryd.prog 139 = some (some (agg u8 (List.replicate 64 0)), 64, 64) := by kernel_rfl
theorem Qez : Yp Tryd.prog 146 = some (some (Value.agg #[(u64 0), (u64 0)]), 2, 16) := by kernel_rfl
theorem ti147 : Yp Tryd.prog 147 = some (some (agg u64 (List.replicate 10 0)), 10, 80) := by kernel_rfl
theorem Vw : Yp Tryd.prog 152 = some (some (agg u32 (List.replicate 8 0)), 8, 32) := by kernel_rfl
theorem Qch : Yp Tryd.prog 154 = some (some (Value.agg #[(u32 0), (u32 0), (u32 0), (u32 0), (u32 0), (u32 0), (u32 0), (u32 0), (Value.slice none 0 0), (u64 0)]), 10, 64) := by kernel_rfl
theorem Sr : Yp Tryd.prog 156 = some (some (agg u32 (List.replicate 16 0)), 16, 64) := by kernel_rfl
theorem Po : Yp Tryd.prog 159 = some (some (agg i64 (List.replicate 4 0)), 4, 32) := by kernel_rfl
theorem ti160 : Yp Tryd.prog 160 = some (some (agg u32 (List.replicate 64 0)), 64, 256) := by kernel_rfl
theorem Qdj : Yp Tryd.prog 167 = some (some (agg u32 (List.replicate 4 0)), 4, 16) := by kernel_rfl
theorem rM {P : Program} {n : Nat} {ops : Array Oper} {rest : List Oper} {K : (Nat → Value) → World → Prop} {fr : Nat → Value} {w : World} {x : Operand} {ty : TypeId} {pos : String} {aft : Array Edge} {d : Nat} {v : Value} (hd : Nat.blt d n = true) (h : Qq fr x = v) (k : RW P n ops rest K (upd fr d v) w) : RW P n ops (⟨some d, .move x, ty, pos, aft, none⟩ :: rest) K fr w := Qb hd (Qc h) k
theorem rA {P : Program} {n : Nat} {ops : Array Oper} {rest : List Oper} {K : (Nat → Value) → World → Prop} {fr : Nat → Value} {w : World} {x : Operand} {ty : TypeId} {pos : String} {aft : Array Edge} {d : Nat} {v : Value} (hd : Nat.blt d n = true) (h : Qq fr x = v) (k : RW P n ops rest K (upd fr d v) w) : RW P n ops (⟨some d, .assign x, ty, pos, aft, none⟩ :: rest) K fr w := Qb hd (Qd h) k
theorem dM {P : Program} {n : Nat} {l : List Oper} {i : Nat} {r : List (Nat × Bool)} {tail : List Oper} {N : (Nat → Value) → World → Prop} {fr : Nat → Value} {w : World} {x : Operand} {ty : TypeId} {pos : String} {aft : Array Edge} {d : Nat} {v : Value} (ho : l[i]? = some ⟨some d, .move x, ty, pos, aft, none⟩) (hd : Nat.blt d n = true) (h : Qq fr x = v) (k : DW P n l tail N (Ext w) r (upd fr d v) w) : DW P n l tail N (Ext w) ((i, false) :: r) fr w := Qw ho hd (fun _ _ => Qc h) k
theorem rN {P : Program} {n : Nat} {ops : Array Oper} {N : (Nat → Value) → World → Prop} {Q : Exit → (Nat → Value) → World → Prop} {fr : Nat → Value} {w : World} (h : N fr w) : RW P n ops [] (fun fr w => Hg N Q .normal fr w) fr w := Zz (Qi h)
theorem sR {P : Program} {n id : Nat} {l : List Oper} {y : Code} {Q : Exit → (Nat → Value) → World → Prop} {fr : Nat → Value} {w : World} (h : RW P n l.toArray l (fun fr w => Hg (CW P n y Q) Q .normal fr w) fr w) : CW P n (.seq (.region id l.toArray false) y) Q fr w := Qh (Qg h)
theorem oM {p : Prop} (h : p := by omega) : p := h
theorem sD {p : Prop} (h : p := by first | (simp only [List.length_cons, List.length_nil]; done) | omega | (simp; done) | (simp; omega) | decide) : p := h
theorem sL {p : Prop} (h : p := by first | omega | (simp only [List.length_set, List.length_append, List.length_replicate, List.length_map, List.length_cons, List.length_nil]; omega) | (simp; done) | (simp; omega) | decide) : p := h
theorem sZ {p : Prop} (h : p := by rw [Ko]; first | (simp only [List.length_cons, List.length_nil]; done) | omega | (simp; done) | (simp; omega) | decide) : p := h
set_option linter.defProp false in def Gj := Tryd.underlying3
set_option linter.defProp false in def Pn := Tryd.underlying4
set_option linter.defProp false in def Vh := Tryd.underlying5
set_option linter.defProp false in def uT9 := Tryd.underlying9
set_option linter.defProp false in def Xo := Tryd.underlying23
set_option linter.defProp false in def We := Tryd.underlying24
set_option linter.defProp false in def Xv := Tryd.underlying26
set_option linter.defProp false in def Z4 := Tryd.underlying27
set_option linter.defProp false in def uT39 := Tryd.underlying39
set_option linter.defProp false in def uT53 := Tryd.underlying53
set_option linter.defProp false in def uT65 := Tryd.underlying65
set_option linter.defProp false in def Cc := Tryd.underlying69
set_option linter.defProp false in def Qce := Tryd.underlying77
set_option linter.defProp false in def Sm := Tryd.underlying82
set_option linter.defProp false in def uT83 := Tryd.underlying83
set_option linter.defProp false in def uT87 := Tryd.underlying87
set_option linter.defProp false in def uT88 := Tryd.underlying88
set_option linter.defProp false in def uT89 := Tryd.underlying89
set_option linter.defProp false in def uT90 := Tryd.underlying90
set_option linter.defProp false in def Yx := Tryd.underlying106
set_option linter.defProp false in def uT118 := Tryd.underlying118
set_option linter.defProp false in def Qex := Tryd.underlying120
set_option linter.defProp false in def uT121 := Tryd.underlying121
set_option linter.defProp false in def X0 := Tryd.underlying124
set_option linter.defProp false in def Z7 := Tryd.underlying126
set_option linter.defProp false in def Uy := Tryd.underlying129
set_option linter.defProp false in def uT139 := Tryd.underlying139
set_option linter.defProp false in def Qcf := Tryd.underlying146
set_option linter.defProp false in def uT147 := Tryd.underlying147
set_option linter.defProp false in def Wu := Tryd.underlying152
set_option linter.defProp false in def Jk := Tryd.underlying154
set_option linter.defProp false in def Gm := Tryd.underlying156
set_option linter.defProp false in def Us := Tryd.underlying159
set_option linter.defProp false in def Ux := Tryd.underlying160
set_option linter.defProp false in def uT163 := Tryd.underlying163
set_option linter.defProp false in def Vd := Tryd.underlying167
theorem nm9 : (Tryd.f9.name == "runtime.NumGoroutine") = false := by kernel_rfl
theorem bd9 : Tryd.f9.body.isNone = false := by kernel_rfl
theorem nm11 : (Tryd.f11.name == "runtime.NumGoroutine") = false := by kernel_rfl
theorem bd11 : Tryd.f11.body.isNone = false := by kernel_rfl
theorem nm12 : (Tryd.f12.name == "runtime.NumGoroutine") = false := by kernel_rfl
theorem bd12 : Tryd.f12.body.isNone = false := by kernel_rfl
theorem nm14 : (Tryd.f14.name == "runtime.NumGoroutine") = false := by kernel_rfl
theorem bd14 : Tryd.f14.body.isNone = false := by kernel_rfl
theorem nm15 : (Tryd.f15.name == "runtime.NumGoroutine") = false := by kernel_rfl
theorem bd15 : Tryd.f15.body.isNone = false := by kernel_rfl
theorem nm16 : (Tryd.f16.name == "runtime.NumGoroutine") = false := by kernel_rfl
theorem bd16 : Tryd.f16.body.isNone = false := by kernel_rfl
theorem nm18 : (Tryd.f18.name == "runtime.NumGoroutine") = false := by kernel_rfl
theorem bd18 : Tryd.f18.body.isNone = false := by kernel_rfl
theorem nm19 : (Tryd.f19.name == "runtime.NumGoroutine") = false := by kernel_rfl
theorem bd19 : Tryd.f19.body.isNone = false := by kernel_rfl
theorem nm20 : (Tryd.f20.name == "runtime.NumGoroutine") = false := by kernel_rfl
theorem bd20 : Tryd.f20.body.isNone = false := by kernel_rfl
theorem nm21 : (Tryd.f21.name == "runtime.NumGoroutine") = false := by kernel_rfl
theorem bd21 : Tryd.f21.body.isNone = false := by kernel_rfl
theorem nm22 : (Tryd.f22.name == "runtime.NumGoroutine") = false := by kernel_rfl
theorem bd22 : Tryd.f22.body.isNone = false := by kernel_rfl
theorem nm27 : (Tryd.f27.name == "runtime.NumGoroutine") = false := by kernel_rfl
theorem bd27 : Tryd.f27.body.isNone = false := by kernel_rfl
theorem nm28 : (Tryd.f28.name == "runtime.NumGoroutine") = false := by kernel_rfl
theorem bd28 : Tryd.f28.body.isNone = false := by kernel_rfl
theorem nm29 : (Tryd.f29.name == "runtime.NumGoroutine") = false := by kernel_rfl
theorem bd29 : Tryd.f29.body.isNone = false := by kernel_rfl
theorem nm30 : (Tryd.f30.name == "runtime.NumGoroutine") = false := by kernel_rfl
theorem bd30 : Tryd.f30.body.isNone = false := by kernel_rfl
theorem nm31 : (Tryd.f31.name == "runtime.NumGoroutine") = false := by kernel_rfl
theorem bd31 : Tryd.f31.body.isNone = false := by kernel_rfl
theorem nm32 : (Tryd.f32.name == "runtime.NumGoroutine") = false := by kernel_rfl
theorem bd32 : Tryd.f32.body.isNone = false := by kernel_rfl
theorem nm33 : (Tryd.f33.name == "runtime.NumGoroutine") = false := by kernel_rfl
theorem bd33 : Tryd.f33.body.isNone = false := by kernel_rfl
theorem nm34 : (Tryd.f34.name == "runtime.NumGoroutine") = false := by kernel_rfl
theorem bd34 : Tryd.f34.body.isNone = false := by kernel_rfl
theorem nm40 : (Tryd.f40.name == "runtime.NumGoroutine") = false := by kernel_rfl
theorem bd40 : Tryd.f40.body.isNone = false := by kernel_rfl
theorem nm41 : (Tryd.f41.name == "runtime.NumGoroutine") = false := by kernel_rfl
theorem bd41 : Tryd.f41.body.isNone = false := by kernel_rfl
theorem nm43 : (Tryd.f43.name == "runtime.NumGoroutine") = false := by kernel_rfl
theorem bd43 : Tryd.f43.body.isNone = false := by kernel_rfl
theorem nm44 : (Tryd.f44.name == "runtime.NumGoroutine") = false := by kernel_rfl
theorem bd44 : Tryd.f44.body.isNone = false := by kernel_rfl
theorem nm45 : (Tryd.f45.name == "runtime.NumGoroutine") = false := by kernel_rfl
theorem bd45 : Tryd.f45.body.isNone = false := by kernel_rfl
theorem nm46 : (Tryd.f46.name == "runtime.NumGoroutine") = false := by kernel_rfl
theorem bd46 : Tryd.f46.body.isNone = false := by kernel_rfl
theorem nm47 : (Tryd.f47.name == "runtime.NumGoroutine") = false := by kernel_rfl
theorem bd47 : Tryd.f47.body.isNone = false := by kernel_rfl
theorem nm48 : (Tryd.f48.name == "runtime.NumGoroutine") = false := by kernel_rfl
theorem bd48 : Tryd.f48.body.isNone = false := by kernel_rfl
theorem nm49 : (Tryd.f49.name == "runtime.NumGoroutine") = false := by kernel_rfl
theorem bd49 : Tryd.f49.body.isNone = false := by kernel_rfl
theorem nm57 : (Tryd.f57.name == "runtime.NumGoroutine") = false := by kernel_rfl
theorem bd57 : Tryd.f57.body.isNone = false := by kernel_rfl
theorem nm58 : (Tryd.f58.name == "runtime.NumGoroutine") = false := by kernel_rfl
theorem bd58 : Tryd.f58.body.isNone = false := by kernel_rfl
theorem nm59 : (Tryd.f59.name == "runtime.NumGoroutine") = false := by kernel_rfl
theorem bd59 : Tryd.f59.body.isNone = false := by kernel_rfl
theorem nm60 : (Tryd.f60.name == "runtime.NumGoroutine") = false := by kernel_rfl
theorem bd60 : Tryd.f60.body.isNone = false := by kernel_rfl
theorem nm61 : (Tryd.f61.name == "runtime.NumGoroutine") = false := by kernel_rfl
theorem bd61 : Tryd.f61.body.isNone = false := by kernel_rfl
theorem nm62 : (Tryd.f62.name == "runtime.NumGoroutine") = false := by kernel_rfl
theorem bd62 : Tryd.f62.body.isNone = false := by kernel_rfl
theorem nm73 : (Tryd.f73.name == "runtime.NumGoroutine") = false := by kernel_rfl
theorem bd73 : Tryd.f73.body.isNone = false := by kernel_rfl
theorem nm74 : (Tryd.f74.name == "runtime.NumGoroutine") = false := by kernel_rfl
theorem bd74 : Tryd.f74.body.isNone = false := by kernel_rfl
theorem nm78 : (Tryd.f78.name == "runtime.NumGoroutine") = false := by kernel_rfl
theorem bd78 : Tryd.f78.body.isNone = false := by kernel_rfl
theorem nm79 : (Tryd.f79.name == "runtime.NumGoroutine") = false := by kernel_rfl
theorem bd79 : Tryd.f79.body.isNone = false := by kernel_rfl
theorem nm80 : (Tryd.f80.name == "runtime.NumGoroutine") = false := by kernel_rfl
theorem bd80 : Tryd.f80.body.isNone = false := by kernel_rfl
theorem Qa3 : (Tryd.f81.name == "runtime.NumGoroutine") = false := by kernel_rfl
theorem Qbj : Tryd.f81.body.isNone = false := by kernel_rfl
theorem nm82 : (Tryd.f82.name == "runtime.NumGoroutine") = false := by kernel_rfl
theorem bd82 : Tryd.f82.body.isNone = false := by kernel_rfl
theorem nm83 : (Tryd.f83.name == "runtime.NumGoroutine") = false := by kernel_rfl
theorem bd83 : Tryd.f83.body.isNone = false := by kernel_rfl
theorem nm84 : (Tryd.f84.name == "runtime.NumGoroutine") = false := by kernel_rfl
theorem bd84 : Tryd.f84.body.isNone = false := by kernel_rfl
theorem nm85 : (Tryd.f85.name == "runtime.NumGoroutine") = false := by kernel_rfl
theorem bd85 : Tryd.f85.body.isNone = false := by kernel_rfl
theorem nm86 : (Tryd.f86.name == "runtime.NumGoroutine") = false := by kernel_rfl
theorem bd86 : Tryd.f86.body.isNone = false := by kernel_rfl
theorem nm87 : (Tryd.f87.name == "runtime.NumGoroutine") = false := by kernel_rfl
theorem bd87 : Tryd.f87.body.isNone = false := by kernel_rfl
theorem nm88 : (Tryd.f88.name == "runtime.NumGoroutine") = false := by kernel_rfl
theorem bd88 : Tryd.f88.body.isNone = false := by kernel_rfl
theorem nm89 : (Tryd.f89.name == "runtime.NumGoroutine") = false := by kernel_rfl
theorem bd89 : Tryd.f89.body.isNone = false := by kernel_rfl
theorem nm95 : (Tryd.f95.name == "runtime.NumGoroutine") = false := by kernel_rfl
theorem bd95 : Tryd.f95.body.isNone = false := by kernel_rfl
theorem nm96 : (Tryd.f96.name == "runtime.NumGoroutine") = false := by kernel_rfl
theorem bd96 : Tryd.f96.body.isNone = false := by kernel_rfl
theorem nm97 : (Tryd.f97.name == "runtime.NumGoroutine") = false := by kernel_rfl
theorem bd97 : Tryd.f97.body.isNone = false := by kernel_rfl
theorem nm98 : (Tryd.f98.name == "runtime.NumGoroutine") = false := by kernel_rfl
theorem bd98 : Tryd.f98.body.isNone = false := by kernel_rfl
theorem nm99 : (Tryd.f99.name == "runtime.NumGoroutine") = false := by kernel_rfl
theorem bd99 : Tryd.f99.body.isNone = false := by kernel_rfl
theorem nm101 : (Tryd.f101.name == "runtime.NumGoroutine") = false := by kernel_rfl
theorem bd101 : Tryd.f101.body.isNone = false := by kernel_rfl
theorem nm102 : (Tryd.f102.name == "runtime.NumGoroutine") = false := by kernel_rfl
theorem bd102 : Tryd.f102.body.isNone = false := by kernel_rfl
theorem nm103 : (Tryd.f103.name == "runtime.NumGoroutine") = false := by kernel_rfl
theorem bd103 : Tryd.f103.body.isNone = false := by kernel_rfl
theorem Qbr : (Tryd.f104.name == "runtime.NumGoroutine") = false := by kernel_rfl
theorem Qb0 : Tryd.f104.body.isNone = false := by kernel_rfl
theorem nm110 : (Tryd.f110.name == "runtime.NumGoroutine") = false := by kernel_rfl
theorem bd110 : Tryd.f110.body.isNone = false := by kernel_rfl
theorem nm111 : (Tryd.f111.name == "runtime.NumGoroutine") = false := by kernel_rfl
theorem bd111 : Tryd.f111.body.isNone = false := by kernel_rfl
theorem Cf : (Tryd.f112.name == "runtime.NumGoroutine") = false := by kernel_rfl
theorem Cm : Tryd.f112.body.isNone = false := by kernel_rfl
theorem L6 : (Tryd.f113.name == "runtime.NumGoroutine") = false := by kernel_rfl
theorem Nj : Tryd.f113.body.isNone = false := by kernel_rfl
theorem nm114 : (Tryd.f114.name == "runtime.NumGoroutine") = false := by kernel_rfl
theorem bd114 : Tryd.f114.body.isNone = false := by kernel_rfl
end Go.Proofs.YtkmiemlpfkfiiaaDoor
