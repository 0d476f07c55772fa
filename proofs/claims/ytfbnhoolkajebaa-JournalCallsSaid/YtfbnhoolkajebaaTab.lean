/- The tables: closed facts on the types and functions of this translation. Conditions: none. -/
import Derived.Test.YtfbnhoolkajebaaFwQ
import Derived.Test.YtfbnhoolkajebaaFwJ
import Derived.Test.YtfbnhoolkajebaaProg
namespace Go.Proofs.Ytfbnhoolkajebaa
theorem ti1 : tinf Try.prog 1 = some (some Value.nilFunc, 1, 8) := by kernel_rfl
theorem ti2 : tinf Try.prog 2 = some (some (i64 0), 1, 8) := by kernel_rfl
theorem ti3 : tinf Try.prog 3 = some (some (i64 0), 1, 8) := by kernel_rfl
theorem ti4 : tinf Try.prog 4 = some (some (bl false), 1, 1) := by kernel_rfl
theorem ti5 : tinf Try.prog 5 = some (some (u8 0), 1, 1) := by kernel_rfl
theorem ti9 : tinf Try.prog 9 = some (some (Value.string ByteArray.empty), 1, 16) := by kernel_rfl
theorem ti12 : tinf Try.prog 12 = some (some (u64 0), 1, 8) := by kernel_rfl
theorem ti13 : tinf Try.prog 13 = some (some (Value.agg #[(Value.string ByteArray.empty), (u64 0)]), 2, 24) := by kernel_rfl
theorem ti20 : tinf Try.prog 20 = some (some Value.nilIface, 1, 16) := by kernel_rfl
theorem ti21 : tinf Try.prog 21 = some (some (i32 0), 1, 4) := by kernel_rfl
theorem ti22 : tinf Try.prog 22 = some (some (Value.slice none 0 0), 1, 24) := by kernel_rfl
theorem ti23 : tinf Try.prog 23 = some (some (Value.slice none 0 0), 1, 24) := by kernel_rfl
theorem ti24 : tinf Try.prog 24 = some (some Value.nilFunc, 1, 8) := by kernel_rfl
theorem ti25 : tinf Try.prog 25 = some (some (Value.pointer none), 1, 8) := by kernel_rfl
theorem ti26 : tinf Try.prog 26 = some (some (i64 0), 1, 8) := by kernel_rfl
theorem ti28 : tinf Try.prog 28 = some (some Value.nilFunc, 1, 8) := by kernel_rfl
theorem ti29 : tinf Try.prog 29 = some (some (Value.pointer none), 1, 8) := by kernel_rfl
theorem ti31 : tinf Try.prog 31 = some (some Value.nilFunc, 1, 8) := by kernel_rfl
theorem ti32 : tinf Try.prog 32 = some (some Value.nilFunc, 1, 8) := by kernel_rfl
theorem ti33 : tinf Try.prog 33 = some (some Value.nilFunc, 1, 8) := by kernel_rfl
theorem ti34 : tinf Try.prog 34 = some (some Value.nilFunc, 1, 8) := by kernel_rfl
theorem ti35 : tinf Try.prog 35 = some (some Value.nilFunc, 1, 8) := by kernel_rfl
theorem ti36 : tinf Try.prog 36 = some (some Value.nilFunc, 1, 8) := by kernel_rfl
theorem ti37 : tinf Try.prog 37 = some (some Value.nilFunc, 1, 8) := by kernel_rfl
theorem ti38 : tinf Try.prog 38 = some (some Value.nilFunc, 1, 8) := by kernel_rfl
theorem ti39 : tinf Try.prog 39 = some (some Value.nilFunc, 1, 8) := by kernel_rfl
theorem ti40 : tinf Try.prog 40 = some (some (Value.slice none 0 0), 1, 24) := by kernel_rfl
theorem ti41 : tinf Try.prog 41 = some (some (Value.slice none 0 0), 1, 24) := by kernel_rfl
theorem ti42 : tinf Try.prog 42 = some (some Value.nilFunc, 1, 8) := by kernel_rfl
theorem ti43 : tinf Try.prog 43 = some (some Value.nilFunc, 1, 8) := by kernel_rfl
theorem ti45 : tinf Try.prog 45 = some (some Value.nilFunc, 1, 8) := by kernel_rfl
theorem ti46 : tinf Try.prog 46 = some (some (Value.agg #[(i64 0), (i64 0), (Value.slice none 0 0)]), 3, 40) := by kernel_rfl
theorem ti47 : tinf Try.prog 47 = some (some (Value.agg #[(i64 0), (i64 0), (Value.slice none 0 0)]), 3, 40) := by kernel_rfl
theorem ti48 : tinf Try.prog 48 = some (some Value.nilFunc, 1, 8) := by kernel_rfl
theorem ti49 : tinf Try.prog 49 = some (some Value.nilFunc, 1, 8) := by kernel_rfl
theorem ti50 : tinf Try.prog 50 = some (some Value.nilFunc, 1, 8) := by kernel_rfl
theorem ti52 : tinf Try.prog 52 = some (some Value.nilFunc, 1, 8) := by kernel_rfl
theorem ti53 : tinf Try.prog 53 = some (some Value.nilFunc, 1, 8) := by kernel_rfl
theorem ti54 : tinf Try.prog 54 = some (some Value.nilFunc, 1, 8) := by kernel_rfl
theorem ti55 : tinf Try.prog 55 = some (some (Value.slice none 0 0), 1, 24) := by kernel_rfl
theorem ti56 : tinf Try.prog 56 = some (some Value.nilFunc, 1, 8) := by kernel_rfl
theorem ti58 : tinf Try.prog 58 = some (some Value.nilFunc, 1, 8) := by kernel_rfl
theorem ti60 : tinf Try.prog 60 = some (some Value.nilFunc, 1, 8) := by kernel_rfl
theorem ti62 : tinf Try.prog 62 = some (some Value.nilFunc, 1, 8) := by kernel_rfl
theorem ti64 : tinf Try.prog 64 = some (some Value.nilFunc, 1, 8) := by kernel_rfl
theorem ti65 : tinf Try.prog 65 = some (some Value.nilFunc, 1, 8) := by kernel_rfl
theorem ti66 : tinf Try.prog 66 = some (some Value.nilFunc, 1, 8) := by kernel_rfl
theorem ti67 : tinf Try.prog 67 = some (some Value.nilFunc, 1, 8) := by kernel_rfl
theorem ti68 : tinf Try.prog 68 = some (some (Value.slice none 0 0), 1, 24) := by kernel_rfl
theorem ti69 : tinf Try.prog 69 = some (some Value.nilFunc, 1, 8) := by kernel_rfl
theorem ti70 : tinf Try.prog 70 = some (some (Value.pointer none), 1, 8) := by kernel_rfl
theorem ti72 : tinf Try.prog 72 = some (some Value.nilFunc, 1, 8) := by kernel_rfl
theorem ti73 : tinf Try.prog 73 = some (some Value.nilFunc, 1, 8) := by kernel_rfl
theorem ti74 : tinf Try.prog 74 = some (some Value.nilFunc, 1, 8) := by kernel_rfl
theorem ti75 : tinf Try.prog 75 = some (some Value.nilFunc, 1, 8) := by kernel_rfl
theorem ti76 : tinf Try.prog 76 = some (some (Value.slice none 0 0), 1, 24) := by kernel_rfl
theorem ti77 : tinf Try.prog 77 = some (some Value.nilFunc, 1, 8) := by kernel_rfl
theorem ti78 : tinf Try.prog 78 = some (some (Value.agg #[(Value.string ByteArray.empty), (Value.slice none 0 0), (bl false)]), 3, 48) := by kernel_rfl
theorem ti79 : tinf Try.prog 79 = some (some (Value.agg #[(Value.string ByteArray.empty), (Value.slice none 0 0), (bl false)]), 3, 48) := by kernel_rfl
theorem ti80 : tinf Try.prog 80 = some (some Value.nilFunc, 1, 8) := by kernel_rfl
theorem ti81 : tinf Try.prog 81 = some (some Value.nilFunc, 1, 8) := by kernel_rfl
theorem ti82 : tinf Try.prog 82 = some (some (agg u8 (List.replicate 64 0)), 64, 64) := by kernel_rfl
theorem ti83 : tinf Try.prog 83 = some (some (agg u8 (List.replicate 64 0)), 64, 64) := by kernel_rfl
theorem ti84 : tinf Try.prog 84 = some (some Value.nilFunc, 1, 8) := by kernel_rfl
theorem ti85 : tinf Try.prog 85 = some (some Value.nilFunc, 1, 8) := by kernel_rfl
theorem ti87 : tinf Try.prog 87 = some (some Value.nilFunc, 1, 8) := by kernel_rfl
theorem ti88 : tinf Try.prog 88 = some (some Value.nilFunc, 1, 8) := by kernel_rfl
theorem ti89 : tinf Try.prog 89 = some (some Value.nilFunc, 1, 8) := by kernel_rfl
theorem ti90 : tinf Try.prog 90 = some (some Value.nilFunc, 1, 8) := by kernel_rfl
theorem ti91 : tinf Try.prog 91 = some (some Value.nilFunc, 1, 8) := by kernel_rfl
theorem ti92 : tinf Try.prog 92 = some (some (Value.slice none 0 0), 1, 24) := by kernel_rfl
theorem ti93 : tinf Try.prog 93 = some (some (Value.agg #[(Value.slice none 0 0), (Value.slice none 0 0)]), 2, 48) := by kernel_rfl
theorem ti94 : tinf Try.prog 94 = some (some (Value.agg #[(Value.slice none 0 0), (Value.slice none 0 0)]), 2, 48) := by kernel_rfl
theorem ti95 : tinf Try.prog 95 = some (some (u64 0), 1, 8) := by kernel_rfl
theorem ti96 : tinf Try.prog 96 = some (some (Value.agg #[(i64 0), (i64 0), (u64 0), (Value.slice none 0 0), (i64 0)]), 5, 56) := by kernel_rfl
theorem ti97 : tinf Try.prog 97 = some (some (Value.agg #[(i64 0), (i64 0), (u64 0), (Value.slice none 0 0), (i64 0)]), 5, 56) := by kernel_rfl
theorem ti98 : tinf Try.prog 98 = some (some Value.nilFunc, 1, 8) := by kernel_rfl
theorem ti99 : tinf Try.prog 99 = some (some (Value.agg #[(Value.pointer none), (i64 0), (i64 0), (u64 0), (Value.slice none 0 0), (i64 0)]), 6, 64) := by kernel_rfl
theorem ti100 : tinf Try.prog 100 = some (some (Value.agg #[(Value.pointer none), (i64 0), (i64 0), (u64 0), (Value.slice none 0 0), (i64 0)]), 6, 64) := by kernel_rfl
theorem ti101 : tinf Try.prog 101 = some (some Value.nilFunc, 1, 8) := by kernel_rfl
theorem ti102 : tinf Try.prog 102 = some (some Value.nilFunc, 1, 8) := by kernel_rfl
theorem ti103 : tinf Try.prog 103 = some (some (Value.agg (segs [[(i64 0)], (List.replicate 64 0).map u8])), 65, 72) := by kernel_rfl
theorem ti104 : tinf Try.prog 104 = some (some (Value.agg (segs [[(i64 0)], (List.replicate 64 0).map u8])), 65, 72) := by kernel_rfl
theorem ti105 : tinf Try.prog 105 = some (some Value.nilFunc, 1, 8) := by kernel_rfl
theorem ti107 : tinf Try.prog 107 = some (some Value.nilFunc, 1, 8) := by kernel_rfl
theorem ti108 : tinf Try.prog 108 = some (some Value.nilFunc, 1, 8) := by kernel_rfl
theorem ti110 : tinf Try.prog 110 = some (some Value.nilFunc, 1, 8) := by kernel_rfl
theorem ti111 : tinf Try.prog 111 = some (some Value.nilFunc, 1, 8) := by kernel_rfl
theorem ti112 : tinf Try.prog 112 = some (some Value.nilFunc, 1, 8) := by kernel_rfl
theorem ti113 : tinf Try.prog 113 = some (some (u64 0), 1, 8) := by kernel_rfl
theorem ti115 : tinf Try.prog 115 = some (some Value.nilFunc, 1, 8) := by kernel_rfl
theorem ti116 : tinf Try.prog 116 = some (some (Value.map none), 1, 8) := by kernel_rfl
theorem ti117 : tinf Try.prog 117 = some (some (Value.agg #[(Value.pointer none), (Value.map none)]), 2, 16) := by kernel_rfl
theorem ti118 : tinf Try.prog 118 = some (some (Value.agg #[(Value.pointer none), (Value.map none)]), 2, 16) := by kernel_rfl
theorem ti119 : tinf Try.prog 119 = some (some Value.nilFunc, 1, 8) := by kernel_rfl
theorem ti120 : tinf Try.prog 120 = some (some Value.nilFunc, 1, 8) := by kernel_rfl
theorem ti121 : tinf Try.prog 121 = some (some Value.nilFunc, 1, 8) := by kernel_rfl
theorem ti122 : tinf Try.prog 122 = some (some Value.nilFunc, 1, 8) := by kernel_rfl
theorem ti123 : tinf Try.prog 123 = some (some Value.nilFunc, 1, 8) := by kernel_rfl
theorem ti124 : tinf Try.prog 124 = some (some Value.nilFunc, 1, 8) := by kernel_rfl
theorem ti125 : tinf Try.prog 125 = some (some Value.nilFunc, 1, 8) := by kernel_rfl
theorem ti126 : tinf Try.prog 126 = some (some (Value.pointer none), 1, 8) := by kernel_rfl
theorem ti128 : tinf Try.prog 128 = some (some Value.nilFunc, 1, 8) := by kernel_rfl
theorem ti129 : tinf Try.prog 129 = some (some Value.nilFunc, 1, 8) := by kernel_rfl
theorem ti130 : tinf Try.prog 130 = some (some Value.nilFunc, 1, 8) := by kernel_rfl
theorem ti131 : tinf Try.prog 131 = some (some Value.nilFunc, 1, 8) := by kernel_rfl
theorem ti132 : tinf Try.prog 132 = some (some Value.nilFunc, 1, 8) := by kernel_rfl
theorem ti133 : tinf Try.prog 133 = some (some Value.nilFunc, 1, 8) := by kernel_rfl
theorem ti134 : tinf Try.prog 134 = some (some Value.nilFunc, 1, 8) := by kernel_rfl
theorem ti135 : tinf Try.prog 135 = some (some Value.nilFunc, 1, 8) := by kernel_rfl
theorem ti136 : tinf Try.prog 136 = some (some Value.nilFunc, 1, 8) := by kernel_rfl
theorem ti137 : tinf Try.prog 137 = some (some Value.nilFunc, 1, 8) := by kernel_rfl
theorem ti138 : tinf Try.prog 138 = some (some Value.nilFunc, 1, 8) := by kernel_rfl
theorem ti139 : tinf Try.prog 139 = some (some Value.nilFunc, 1, 8) := by kernel_rfl
theorem ti140 : tinf Try.prog 140 = some (some Value.nilFunc, 1, 8) := by kernel_rfl
theorem ti141 : tinf Try.prog 141 = some (some Value.nilFunc, 1, 8) := by kernel_rfl
theorem ti142 : tinf Try.prog 142 = some (some Value.nilFunc, 1, 8) := by kernel_rfl
theorem ti143 : tinf Try.prog 143 = some (some Value.nilFunc, 1, 8) := by kernel_rfl
theorem ti144 : tinf Try.prog 144 = some (some (Value.agg #[(u64 0), (u64 0), (u64 0)]), 3, 24) := by kernel_rfl
theorem ti145 : tinf Try.prog 145 = some (some (Value.agg #[(u64 0), (u64 0), (u64 0)]), 3, 24) := by kernel_rfl
theorem ti146 : tinf Try.prog 146 = some (some Value.nilFunc, 1, 8) := by kernel_rfl
theorem ti147 : tinf Try.prog 147 = some (some Value.nilFunc, 1, 8) := by kernel_rfl
theorem ti148 : tinf Try.prog 148 = some (some Value.nilFunc, 1, 8) := by kernel_rfl
theorem ti149 : tinf Try.prog 149 = some (some Value.nilFunc, 1, 8) := by kernel_rfl
theorem ti150 : tinf Try.prog 150 = some (some Value.nilFunc, 1, 8) := by kernel_rfl
theorem ti151 : tinf Try.prog 151 = some (some (i64 0), 1, 8) := by kernel_rfl
theorem ti153 : tinf Try.prog 153 = some (some Value.nilFunc, 1, 8) := by kernel_rfl
theorem ti154 : tinf Try.prog 154 = some (some Value.nilFunc, 1, 8) := by kernel_rfl
theorem ti155 : tinf Try.prog 155 = some (some Value.nilFunc, 1, 8) := by kernel_rfl
theorem ti157 : tinf Try.prog 157 = some (some Value.nilFunc, 1, 8) := by kernel_rfl
theorem ti158 : tinf Try.prog 158 = some (some Value.nilFunc, 1, 8) := by kernel_rfl
theorem ti159 : tinf Try.prog 159 = some (some (u32 0), 1, 4) := by kernel_rfl
theorem ti160 : tinf Try.prog 160 = some (some Value.nilFunc, 1, 8) := by kernel_rfl
theorem ti161 : tinf Try.prog 161 = some (some Value.nilFunc, 1, 8) := by kernel_rfl
theorem ti162 : tinf Try.prog 162 = some (some (u64 0), 1, 8) := by kernel_rfl
theorem ti163 : tinf Try.prog 163 = some (some Value.nilFunc, 1, 8) := by kernel_rfl
theorem ti164 : tinf Try.prog 164 = some (some Value.nilFunc, 1, 8) := by kernel_rfl
theorem ti165 : tinf Try.prog 165 = some (some Value.nilFunc, 1, 8) := by kernel_rfl
theorem ti166 : tinf Try.prog 166 = some (some (Value.pointer none), 1, 8) := by kernel_rfl
theorem ti167 : tinf Try.prog 167 = some (some Value.nilFunc, 1, 8) := by kernel_rfl
theorem ti168 : tinf Try.prog 168 = some (some (Value.pointer none), 1, 8) := by kernel_rfl
theorem ti170 : tinf Try.prog 170 = some (some Value.nilFunc, 1, 8) := by kernel_rfl
theorem ti171 : tinf Try.prog 171 = some (some Value.nilFunc, 1, 8) := by kernel_rfl
theorem ti180 : tinf Try.prog 180 = some (some (Value.pointer none), 1, 8) := by kernel_rfl
theorem rM {P : Program} {n : Nat} {ops : Array Oper} {rest : List Oper} {K : (Nat → Value) → World → Prop} {fr : Nat → Value} {w : World} {x : Operand} {ty : TypeId} {pos : String} {aft : Array Edge} {d : Nat} {v : Value} (hd : Nat.blt d n = true) (h : evalF fr x = v) (k : RW P n ops rest K (upd fr d v) w) : RW P n ops (⟨some d, .move x, ty, pos, aft, none⟩ :: rest) K fr w := rw_q hd (ev_move h) k
theorem rA {P : Program} {n : Nat} {ops : Array Oper} {rest : List Oper} {K : (Nat → Value) → World → Prop} {fr : Nat → Value} {w : World} {x : Operand} {ty : TypeId} {pos : String} {aft : Array Edge} {d : Nat} {v : Value} (hd : Nat.blt d n = true) (h : evalF fr x = v) (k : RW P n ops rest K (upd fr d v) w) : RW P n ops (⟨some d, .assign x, ty, pos, aft, none⟩ :: rest) K fr w := rw_q hd (ev_assign h) k
theorem dM {P : Program} {n : Nat} {l : List Oper} {i : Nat} {r : List (Nat × Bool)} {tail : List Oper} {N : (Nat → Value) → World → Prop} {fr : Nat → Value} {w : World} {x : Operand} {ty : TypeId} {pos : String} {aft : Array Edge} {d : Nat} {v : Value} (ho : l[i]? = some ⟨some d, .move x, ty, pos, aft, none⟩) (hd : Nat.blt d n = true) (h : evalF fr x = v) (k : DW P n l tail N (Ext w) r (upd fr d v) w) : DW P n l tail N (Ext w) ((i, false) :: r) fr w := dw_q ho hd (fun _ _ => ev_move h) k
theorem rN {P : Program} {n : Nat} {ops : Array Oper} {N : (Nat → Value) → World → Prop} {Q : Exit → (Nat → Value) → World → Prop} {fr : Nat → Value} {w : World} (h : N fr w) : RW P n ops [] (fun fr w => kThen N Q .normal fr w) fr w := rw_nil (kThen_normal h)
theorem sR {P : Program} {n id : Nat} {l : List Oper} {y : Code} {Q : Exit → (Nat → Value) → World → Prop} {fr : Nat → Value} {w : World} (h : RW P n l.toArray l (fun fr w => kThen (CW P n y Q) Q .normal fr w) fr w) : CW P n (.seq (.region id l.toArray false) y) Q fr w := cw_seq (cw_region h)
theorem oM {p : Prop} (h : p := by omega) : p := h
theorem sD {p : Prop} (h : p := by first | (simp only [List.length_cons, List.length_nil]; done) | omega | (simp; done) | (simp; omega) | decide) : p := h
theorem sL {p : Prop} (h : p := by first | omega | (simp only [List.length_set, List.length_append, List.length_replicate, List.length_map, List.length_cons, List.length_nil]; omega) | (simp; done) | (simp; omega) | decide) : p := h
theorem sZ {p : Prop} (h : p := by rw [size_cl]; first | (simp only [List.length_cons, List.length_nil]; done) | omega | (simp; done) | (simp; omega) | decide) : p := h
set_option linter.defProp false in def uT3 := Try.underlying3
set_option linter.defProp false in def uT4 := Try.underlying4
set_option linter.defProp false in def uT5 := Try.underlying5
set_option linter.defProp false in def uT9 := Try.underlying9
set_option linter.defProp false in def uT22 := Try.underlying22
set_option linter.defProp false in def uT23 := Try.underlying23
set_option linter.defProp false in def uT25 := Try.underlying25
set_option linter.defProp false in def uT26 := Try.underlying26
set_option linter.defProp false in def uT29 := Try.underlying29
set_option linter.defProp false in def uT40 := Try.underlying40
set_option linter.defProp false in def uT41 := Try.underlying41
set_option linter.defProp false in def uT47 := Try.underlying47
set_option linter.defProp false in def uT83 := Try.underlying83
set_option linter.defProp false in def uT92 := Try.underlying92
set_option linter.defProp false in def uT94 := Try.underlying94
set_option linter.defProp false in def uT95 := Try.underlying95
set_option linter.defProp false in def uT97 := Try.underlying97
set_option linter.defProp false in def uT100 := Try.underlying100
set_option linter.defProp false in def uT104 := Try.underlying104
set_option linter.defProp false in def uT145 := Try.underlying145
theorem nm2 : (Try.f2.name == "runtime.NumGoroutine") = false := by kernel_rfl
theorem bd2 : Try.f2.body.isNone = false := by kernel_rfl
theorem nm3 : (Try.f3.name == "runtime.NumGoroutine") = false := by kernel_rfl
theorem bd3 : Try.f3.body.isNone = false := by kernel_rfl
theorem nm4 : (Try.f4.name == "runtime.NumGoroutine") = false := by kernel_rfl
theorem bd4 : Try.f4.body.isNone = false := by kernel_rfl
theorem nm5 : (Try.f5.name == "runtime.NumGoroutine") = false := by kernel_rfl
theorem bd5 : Try.f5.body.isNone = false := by kernel_rfl
theorem nm6 : (Try.f6.name == "runtime.NumGoroutine") = false := by kernel_rfl
theorem bd6 : Try.f6.body.isNone = false := by kernel_rfl
theorem nm7 : (Try.f7.name == "runtime.NumGoroutine") = false := by kernel_rfl
theorem bd7 : Try.f7.body.isNone = false := by kernel_rfl
theorem nm8 : (Try.f8.name == "runtime.NumGoroutine") = false := by kernel_rfl
theorem bd8 : Try.f8.body.isNone = false := by kernel_rfl
theorem nm9 : (Try.f9.name == "runtime.NumGoroutine") = false := by kernel_rfl
theorem bd9 : Try.f9.body.isNone = false := by kernel_rfl
theorem nm10 : (Try.f10.name == "runtime.NumGoroutine") = false := by kernel_rfl
theorem bd10 : Try.f10.body.isNone = false := by kernel_rfl
theorem nm11 : (Try.f11.name == "runtime.NumGoroutine") = false := by kernel_rfl
theorem bd11 : Try.f11.body.isNone = false := by kernel_rfl
theorem nm12 : (Try.f12.name == "runtime.NumGoroutine") = false := by kernel_rfl
theorem bd12 : Try.f12.body.isNone = false := by kernel_rfl
theorem nm13 : (Try.f13.name == "runtime.NumGoroutine") = false := by kernel_rfl
theorem bd13 : Try.f13.body.isNone = false := by kernel_rfl
theorem nm14 : (Try.f14.name == "runtime.NumGoroutine") = false := by kernel_rfl
theorem bd14 : Try.f14.body.isNone = false := by kernel_rfl
theorem nm15 : (Try.f15.name == "runtime.NumGoroutine") = false := by kernel_rfl
theorem bd15 : Try.f15.body.isNone = false := by kernel_rfl
theorem nm16 : (Try.f16.name == "runtime.NumGoroutine") = false := by kernel_rfl
theorem bd16 : Try.f16.body.isNone = false := by kernel_rfl
theorem nm17 : (Try.f17.name == "runtime.NumGoroutine") = false := by kernel_rfl
theorem bd17 : Try.f17.body.isNone = false := by kernel_rfl
theorem nm18 : (Try.f18.name == "runtime.NumGoroutine") = false := by kernel_rfl
theorem bd18 : Try.f18.body.isNone = false := by kernel_rfl
theorem nm19 : (Try.f19.name == "runtime.NumGoroutine") = false := by kernel_rfl
theorem bd19 : Try.f19.body.isNone = false := by kernel_rfl
theorem nm20 : (Try.f20.name == "runtime.NumGoroutine") = false := by kernel_rfl
theorem bd20 : Try.f20.body.isNone = false := by kernel_rfl
theorem nm21 : (Try.f21.name == "runtime.NumGoroutine") = false := by kernel_rfl
theorem bd21 : Try.f21.body.isNone = false := by kernel_rfl
theorem nm22 : (Try.f22.name == "runtime.NumGoroutine") = false := by kernel_rfl
theorem bd22 : Try.f22.body.isNone = false := by kernel_rfl
theorem nm23 : (Try.f23.name == "runtime.NumGoroutine") = false := by kernel_rfl
theorem bd23 : Try.f23.body.isNone = false := by kernel_rfl
theorem nm24 : (Try.f24.name == "runtime.NumGoroutine") = false := by kernel_rfl
theorem bd24 : Try.f24.body.isNone = false := by kernel_rfl
theorem nm25 : (Try.f25.name == "runtime.NumGoroutine") = false := by kernel_rfl
theorem bd25 : Try.f25.body.isNone = false := by kernel_rfl
theorem nm26 : (Try.f26.name == "runtime.NumGoroutine") = false := by kernel_rfl
theorem bd26 : Try.f26.body.isNone = false := by kernel_rfl
theorem nm27 : (Try.f27.name == "runtime.NumGoroutine") = false := by kernel_rfl
theorem bd27 : Try.f27.body.isNone = false := by kernel_rfl
theorem nm28 : (Try.f28.name == "runtime.NumGoroutine") = false := by kernel_rfl
theorem bd28 : Try.f28.body.isNone = false := by kernel_rfl
theorem nm29 : (Try.f29.name == "runtime.NumGoroutine") = false := by kernel_rfl
theorem bd29 : Try.f29.body.isNone = false := by kernel_rfl
theorem nm30 : (Try.f30.name == "runtime.NumGoroutine") = false := by kernel_rfl
theorem bd30 : Try.f30.body.isNone = false := by kernel_rfl
theorem nm31 : (Try.f31.name == "runtime.NumGoroutine") = false := by kernel_rfl
theorem bd31 : Try.f31.body.isNone = false := by kernel_rfl
theorem nm32 : (Try.f32.name == "runtime.NumGoroutine") = false := by kernel_rfl
theorem bd32 : Try.f32.body.isNone = false := by kernel_rfl
theorem nm33 : (Try.f33.name == "runtime.NumGoroutine") = false := by kernel_rfl
theorem bd33 : Try.f33.body.isNone = false := by kernel_rfl
theorem nm34 : (Try.f34.name == "runtime.NumGoroutine") = false := by kernel_rfl
theorem bd34 : Try.f34.body.isNone = false := by kernel_rfl
theorem nm35 : (Try.f35.name == "runtime.NumGoroutine") = false := by kernel_rfl
theorem bd35 : Try.f35.body.isNone = false := by kernel_rfl
theorem nm36 : (Try.f36.name == "runtime.NumGoroutine") = false := by kernel_rfl
theorem bd36 : Try.f36.body.isNone = false := by kernel_rfl
theorem nm37 : (Try.f37.name == "runtime.NumGoroutine") = false := by kernel_rfl
theorem bd37 : Try.f37.body.isNone = false := by kernel_rfl
theorem nm38 : (Try.f38.name == "runtime.NumGoroutine") = false := by kernel_rfl
theorem bd38 : Try.f38.body.isNone = false := by kernel_rfl
theorem nm39 : (Try.f39.name == "runtime.NumGoroutine") = false := by kernel_rfl
theorem bd39 : Try.f39.body.isNone = false := by kernel_rfl
theorem nm40 : (Try.f40.name == "runtime.NumGoroutine") = false := by kernel_rfl
theorem bd40 : Try.f40.body.isNone = false := by kernel_rfl
theorem nm41 : (Try.f41.name == "runtime.NumGoroutine") = false := by kernel_rfl
theorem bd41 : Try.f41.body.isNone = false := by kernel_rfl
theorem nm42 : (Try.f42.name == "runtime.NumGoroutine") = false := by kernel_rfl
theorem bd42 : Try.f42.body.isNone = false := by kernel_rfl
theorem nm43 : (Try.f43.name == "runtime.NumGoroutine") = false := by kernel_rfl
theorem bd43 : Try.f43.body.isNone = false := by kernel_rfl
theorem nm44 : (Try.f44.name == "runtime.NumGoroutine") = false := by kernel_rfl
theorem bd44 : Try.f44.body.isNone = false := by kernel_rfl
theorem nm45 : (Try.f45.name == "runtime.NumGoroutine") = false := by kernel_rfl
theorem bd45 : Try.f45.body.isNone = false := by kernel_rfl
theorem nm46 : (Try.f46.name == "runtime.NumGoroutine") = false := by kernel_rfl
theorem bd46 : Try.f46.body.isNone = false := by kernel_rfl
theorem nm47 : (Try.f47.name == "runtime.NumGoroutine") = false := by kernel_rfl
theorem bd47 : Try.f47.body.isNone = false := by kernel_rfl
theorem nm48 : (Try.f48.name == "runtime.NumGoroutine") = false := by kernel_rfl
theorem bd48 : Try.f48.body.isNone = false := by kernel_rfl
theorem nm49 : (Try.f49.name == "runtime.NumGoroutine") = false := by kernel_rfl
theorem bd49 : Try.f49.body.isNone = false := by kernel_rfl
theorem nm50 : (Try.f50.name == "runtime.NumGoroutine") = false := by kernel_rfl
theorem bd50 : Try.f50.body.isNone = false := by kernel_rfl
theorem nm51 : (Try.f51.name == "runtime.NumGoroutine") = false := by kernel_rfl
theorem bd51 : Try.f51.body.isNone = false := by kernel_rfl
theorem nm52 : (Try.f52.name == "runtime.NumGoroutine") = false := by kernel_rfl
theorem bd52 : Try.f52.body.isNone = false := by kernel_rfl
theorem nm53 : (Try.f53.name == "runtime.NumGoroutine") = false := by kernel_rfl
theorem bd53 : Try.f53.body.isNone = false := by kernel_rfl
theorem nm54 : (Try.f54.name == "runtime.NumGoroutine") = false := by kernel_rfl
theorem bd54 : Try.f54.body.isNone = false := by kernel_rfl
theorem nm55 : (Try.f55.name == "runtime.NumGoroutine") = false := by kernel_rfl
theorem bd55 : Try.f55.body.isNone = false := by kernel_rfl
theorem nm56 : (Try.f56.name == "runtime.NumGoroutine") = false := by kernel_rfl
theorem bd56 : Try.f56.body.isNone = false := by kernel_rfl
theorem nm57 : (Try.f57.name == "runtime.NumGoroutine") = false := by kernel_rfl
theorem bd57 : Try.f57.body.isNone = false := by kernel_rfl
theorem nm58 : (Try.f58.name == "runtime.NumGoroutine") = false := by kernel_rfl
theorem bd58 : Try.f58.body.isNone = false := by kernel_rfl
theorem nm59 : (Try.f59.name == "runtime.NumGoroutine") = false := by kernel_rfl
theorem bd59 : Try.f59.body.isNone = false := by kernel_rfl
theorem nm60 : (Try.f60.name == "runtime.NumGoroutine") = false := by kernel_rfl
theorem bd60 : Try.f60.body.isNone = false := by kernel_rfl
theorem nm61 : (Try.f61.name == "runtime.NumGoroutine") = false := by kernel_rfl
theorem bd61 : Try.f61.body.isNone = false := by kernel_rfl
theorem nm62 : (Try.f62.name == "runtime.NumGoroutine") = false := by kernel_rfl
theorem bd62 : Try.f62.body.isNone = false := by kernel_rfl
theorem nm63 : (Try.f63.name == "runtime.NumGoroutine") = false := by kernel_rfl
theorem bd63 : Try.f63.body.isNone = false := by kernel_rfl
theorem nm64 : (Try.f64.name == "runtime.NumGoroutine") = false := by kernel_rfl
theorem bd64 : Try.f64.body.isNone = false := by kernel_rfl
theorem nm65 : (Try.f65.name == "runtime.NumGoroutine") = false := by kernel_rfl
theorem bd65 : Try.f65.body.isNone = false := by kernel_rfl
theorem nm66 : (Try.f66.name == "runtime.NumGoroutine") = false := by kernel_rfl
theorem bd66 : Try.f66.body.isNone = false := by kernel_rfl
theorem nm67 : (Try.f67.name == "runtime.NumGoroutine") = false := by kernel_rfl
theorem bd67 : Try.f67.body.isNone = false := by kernel_rfl
theorem nm68 : (Try.f68.name == "runtime.NumGoroutine") = false := by kernel_rfl
theorem bd68 : Try.f68.body.isNone = false := by kernel_rfl
theorem nm69 : (Try.f69.name == "runtime.NumGoroutine") = false := by kernel_rfl
theorem bd69 : Try.f69.body.isNone = false := by kernel_rfl
theorem nm70 : (Try.f70.name == "runtime.NumGoroutine") = false := by kernel_rfl
theorem bd70 : Try.f70.body.isNone = false := by kernel_rfl
theorem nm71 : (Try.f71.name == "runtime.NumGoroutine") = false := by kernel_rfl
theorem bd71 : Try.f71.body.isNone = false := by kernel_rfl
theorem nm72 : (Try.f72.name == "runtime.NumGoroutine") = false := by kernel_rfl
theorem bd72 : Try.f72.body.isNone = false := by kernel_rfl
theorem nm73 : (Try.f73.name == "runtime.NumGoroutine") = false := by kernel_rfl
theorem bd73 : Try.f73.body.isNone = false := by kernel_rfl
theorem nm74 : (Try.f74.name == "runtime.NumGoroutine") = false := by kernel_rfl
theorem bd74 : Try.f74.body.isNone = false := by kernel_rfl
theorem nm75 : (Try.f75.name == "runtime.NumGoroutine") = false := by kernel_rfl
theorem bd75 : Try.f75.body.isNone = false := by kernel_rfl
theorem nm76 : (Try.f76.name == "runtime.NumGoroutine") = false := by kernel_rfl
theorem bd76 : Try.f76.body.isNone = false := by kernel_rfl
theorem nm77 : (Try.f77.name == "runtime.NumGoroutine") = false := by kernel_rfl
theorem bd77 : Try.f77.body.isNone = false := by kernel_rfl
theorem nm79 : (Try.f79.name == "runtime.NumGoroutine") = false := by kernel_rfl
theorem bd79 : Try.f79.body.isNone = false := by kernel_rfl
theorem nm80 : (Try.f80.name == "runtime.NumGoroutine") = false := by kernel_rfl
theorem bd80 : Try.f80.body.isNone = false := by kernel_rfl
theorem nm81 : (Try.f81.name == "runtime.NumGoroutine") = false := by kernel_rfl
theorem bd81 : Try.f81.body.isNone = false := by kernel_rfl
theorem nm82 : (Try.f82.name == "runtime.NumGoroutine") = false := by kernel_rfl
theorem bd82 : Try.f82.body.isNone = false := by kernel_rfl
theorem nm83 : (Try.f83.name == "runtime.NumGoroutine") = false := by kernel_rfl
theorem bd83 : Try.f83.body.isNone = false := by kernel_rfl
theorem nm84 : (Try.f84.name == "runtime.NumGoroutine") = false := by kernel_rfl
theorem bd84 : Try.f84.body.isNone = false := by kernel_rfl
theorem nm85 : (Try.f85.name == "runtime.NumGoroutine") = false := by kernel_rfl
theorem bd85 : Try.f85.body.isNone = false := by kernel_rfl
theorem nm86 : (Try.f86.name == "runtime.NumGoroutine") = false := by kernel_rfl
theorem bd86 : Try.f86.body.isNone = false := by kernel_rfl
theorem nm87 : (Try.f87.name == "runtime.NumGoroutine") = false := by kernel_rfl
theorem bd87 : Try.f87.body.isNone = false := by kernel_rfl
theorem nm88 : (Try.f88.name == "runtime.NumGoroutine") = false := by kernel_rfl
theorem bd88 : Try.f88.body.isNone = false := by kernel_rfl
theorem nm89 : (Try.f89.name == "runtime.NumGoroutine") = false := by kernel_rfl
theorem bd89 : Try.f89.body.isNone = false := by kernel_rfl
theorem nm90 : (Try.f90.name == "runtime.NumGoroutine") = false := by kernel_rfl
theorem bd90 : Try.f90.body.isNone = false := by kernel_rfl
theorem nm91 : (Try.f91.name == "runtime.NumGoroutine") = false := by kernel_rfl
theorem bd91 : Try.f91.body.isNone = false := by kernel_rfl
theorem nm92 : (Try.f92.name == "runtime.NumGoroutine") = false := by kernel_rfl
theorem bd92 : Try.f92.body.isNone = false := by kernel_rfl
theorem nm93 : (Try.f93.name == "runtime.NumGoroutine") = false := by kernel_rfl
theorem bd93 : Try.f93.body.isNone = false := by kernel_rfl
theorem nm94 : (Try.f94.name == "runtime.NumGoroutine") = false := by kernel_rfl
theorem bd94 : Try.f94.body.isNone = false := by kernel_rfl
theorem nm95 : (Try.f95.name == "runtime.NumGoroutine") = false := by kernel_rfl
theorem bd95 : Try.f95.body.isNone = false := by kernel_rfl
theorem nm96 : (Try.f96.name == "runtime.NumGoroutine") = false := by kernel_rfl
theorem bd96 : Try.f96.body.isNone = false := by kernel_rfl
theorem nm97 : (Try.f97.name == "runtime.NumGoroutine") = false := by kernel_rfl
theorem bd97 : Try.f97.body.isNone = false := by kernel_rfl
theorem nm98 : (Try.f98.name == "runtime.NumGoroutine") = false := by kernel_rfl
theorem bd98 : Try.f98.body.isNone = false := by kernel_rfl
theorem nm99 : (Try.f99.name == "runtime.NumGoroutine") = false := by kernel_rfl
theorem bd99 : Try.f99.body.isNone = false := by kernel_rfl
theorem nm100 : (Try.f100.name == "runtime.NumGoroutine") = false := by kernel_rfl
theorem bd100 : Try.f100.body.isNone = false := by kernel_rfl
theorem nm101 : (Try.f101.name == "runtime.NumGoroutine") = false := by kernel_rfl
theorem bd101 : Try.f101.body.isNone = false := by kernel_rfl
theorem nm102 : (Try.f102.name == "runtime.NumGoroutine") = false := by kernel_rfl
theorem bd102 : Try.f102.body.isNone = false := by kernel_rfl
theorem nm103 : (Try.f103.name == "runtime.NumGoroutine") = false := by kernel_rfl
theorem bd103 : Try.f103.body.isNone = false := by kernel_rfl
theorem nm104 : (Try.f104.name == "runtime.NumGoroutine") = false := by kernel_rfl
theorem bd104 : Try.f104.body.isNone = false := by kernel_rfl
theorem nm105 : (Try.f105.name == "runtime.NumGoroutine") = false := by kernel_rfl
theorem bd105 : Try.f105.body.isNone = false := by kernel_rfl
theorem nm106 : (Try.f106.name == "runtime.NumGoroutine") = false := by kernel_rfl
theorem bd106 : Try.f106.body.isNone = false := by kernel_rfl
theorem nm107 : (Try.f107.name == "runtime.NumGoroutine") = false := by kernel_rfl
theorem bd107 : Try.f107.body.isNone = false := by kernel_rfl
theorem nm108 : (Try.f108.name == "runtime.NumGoroutine") = false := by kernel_rfl
theorem bd108 : Try.f108.body.isNone = false := by kernel_rfl
theorem nm109 : (Try.f109.name == "runtime.NumGoroutine") = false := by kernel_rfl
theorem bd109 : Try.f109.body.isNone = false := by kernel_rfl
end Go.Proofs.Ytfbnhoolkajebaa
