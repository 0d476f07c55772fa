/- The tables: closed facts on the types and functions of this translation. Conditions: none. -/
import Derived.Test.YtmiagmbgfhakgaaFwJ
import Derived.Test.YtmiagmbgfhakgaaProg
namespace Go.Proofs.Ytmiagmbgfhakgaa
theorem ti1 : tinf Try.prog 1 = some (some Value.nilFunc, 1, 8) := by kernel_rfl
theorem ti2 : tinf Try.prog 2 = some (some (i64 0), 1, 8) := by kernel_rfl
theorem ti3 : tinf Try.prog 3 = some (some (i64 0), 1, 8) := by kernel_rfl
theorem ti4 : tinf Try.prog 4 = some (some (bl false), 1, 1) := by kernel_rfl
theorem ti5 : tinf Try.prog 5 = some (some (u8 0), 1, 1) := by kernel_rfl
theorem ti9 : tinf Try.prog 9 = some (some (Value.string ByteArray.empty), 1, 16) := by kernel_rfl
theorem ti12 : tinf Try.prog 12 = some (some (u64 0), 1, 8) := by kernel_rfl
theorem ti13 : tinf Try.prog 13 = some (some (Value.agg #[(Value.string ByteArray.empty), (u64 0)]), 2, 24) := by kernel_rfl
theorem ti20 : tinf Try.prog 20 = some (some Value.nilIface, 1, 16) := by kernel_rfl
theorem ti21 : tinf Try.prog 21 = some (some (i32 0), 1, 4) := by kernel_rfl
theorem ti22 : tinf Try.prog 22 = some (some (agg u8 (List.replicate 32 0)), 32, 32) := by kernel_rfl
theorem ti23 : tinf Try.prog 23 = some (some (agg u8 (List.replicate 32 0)), 32, 32) := by kernel_rfl
theorem ti24 : tinf Try.prog 24 = some (some (Value.agg #[(u8 0), (u8 0), (u8 0), (u8 0), (u8 0), (u8 0), (u8 0), (u8 0), (u8 0), (u8 0), (u8 0), (u8 0), (u8 0), (u8 0), (u8 0), (u8 0), (u8 0), (u8 0), (u8 0), (u8 0), (u8 0), (u8 0), (u8 0), (u8 0), (u8 0), (u8 0), (u8 0), (u8 0), (u8 0), (u8 0), (u8 0), (u8 0), (u8 0), (u8 0), (u8 0), (u8 0), (u8 0), (u8 0), (u8 0), (u8 0), (u8 0), (u8 0), (u8 0), (u8 0), (u8 0), (u8 0), (u8 0), (u8 0), (u8 0), (u8 0), (u8 0), (u8 0), (u8 0), (u8 0), (u8 0), (u8 0), (u8 0), (u8 0), (u8 0), (u8 0), (u8 0), (u8 0), (u8 0), (u8 0)]), 64, 64) := by kernel_rfl
theorem ti25 : tinf Try.prog 25 = some (some (Value.agg #[(u8 0), (u8 0), (u8 0), (u8 0), (u8 0), (u8 0), (u8 0), (u8 0), (u8 0), (u8 0), (u8 0), (u8 0), (u8 0), (u8 0), (u8 0), (u8 0), (u8 0), (u8 0), (u8 0), (u8 0), (u8 0), (u8 0), (u8 0), (u8 0), (u8 0), (u8 0), (u8 0), (u8 0), (u8 0), (u8 0), (u8 0), (u8 0), (u8 0), (u8 0), (u8 0), (u8 0), (u8 0), (u8 0), (u8 0), (u8 0), (u8 0), (u8 0), (u8 0), (u8 0), (u8 0), (u8 0), (u8 0), (u8 0), (u8 0), (u8 0), (u8 0), (u8 0), (u8 0), (u8 0), (u8 0), (u8 0), (u8 0), (u8 0), (u8 0), (u8 0), (u8 0), (u8 0), (u8 0), (u8 0)]), 64, 64) := by kernel_rfl
theorem ti26 : tinf Try.prog 26 = some (some (Value.slice none 0 0), 1, 24) := by kernel_rfl
theorem ti27 : tinf Try.prog 27 = some (some Value.nilFunc, 1, 8) := by kernel_rfl
theorem ti28 : tinf Try.prog 28 = some (some Value.nilFunc, 1, 8) := by kernel_rfl
theorem ti29 : tinf Try.prog 29 = some (some Value.nilFunc, 1, 8) := by kernel_rfl
theorem ti30 : tinf Try.prog 30 = some (some (i64 0), 1, 8) := by kernel_rfl
theorem ti32 : tinf Try.prog 32 = some (some Value.nilFunc, 1, 8) := by kernel_rfl
theorem ti33 : tinf Try.prog 33 = some (some Value.nilFunc, 1, 8) := by kernel_rfl
theorem ti34 : tinf Try.prog 34 = some (some Value.nilFunc, 1, 8) := by kernel_rfl
theorem ti35 : tinf Try.prog 35 = some (some Value.nilFunc, 1, 8) := by kernel_rfl
theorem ti36 : tinf Try.prog 36 = some (some Value.nilFunc, 1, 8) := by kernel_rfl
theorem ti37 : tinf Try.prog 37 = some (some Value.nilFunc, 1, 8) := by kernel_rfl
theorem ti38 : tinf Try.prog 38 = some (some Value.nilFunc, 1, 8) := by kernel_rfl
theorem ti39 : tinf Try.prog 39 = some (some (Value.agg #[(u8 0), (u8 0), (u8 0), (u8 0), (u8 0), (u8 0), (u8 0), (u8 0), (u8 0), (u8 0), (u8 0), (u8 0), (u8 0), (u8 0), (u8 0), (u8 0), (u8 0), (u8 0), (u8 0), (u8 0), (u8 0), (u8 0), (u8 0), (u8 0), (u8 0), (u8 0), (u8 0), (u8 0), (u8 0), (u8 0), (u8 0), (u8 0), (u8 0), (u8 0), (u8 0), (u8 0), (u8 0), (u8 0), (u8 0), (u8 0), (u8 0), (u8 0), (u8 0), (u8 0), (u8 0), (u8 0), (u8 0), (u8 0), (u8 0), (u8 0), (u8 0), (u8 0), (u8 0), (u8 0), (u8 0), (u8 0), (u8 0), (u8 0), (u8 0), (u8 0), (u8 0), (u8 0), (u8 0), (u8 0)]), 64, 64) := by kernel_rfl
theorem ti40 : tinf Try.prog 40 = some (some (Value.agg #[(u8 0), (u8 0), (u8 0), (u8 0), (u8 0), (u8 0), (u8 0), (u8 0), (u8 0), (u8 0), (u8 0), (u8 0), (u8 0), (u8 0), (u8 0), (u8 0), (u8 0), (u8 0), (u8 0), (u8 0), (u8 0), (u8 0), (u8 0), (u8 0), (u8 0), (u8 0), (u8 0), (u8 0), (u8 0), (u8 0), (u8 0), (u8 0), (u8 0), (u8 0), (u8 0), (u8 0), (u8 0), (u8 0), (u8 0), (u8 0), (u8 0), (u8 0), (u8 0), (u8 0), (u8 0), (u8 0), (u8 0), (u8 0), (u8 0), (u8 0), (u8 0), (u8 0), (u8 0), (u8 0), (u8 0), (u8 0), (u8 0), (u8 0), (u8 0), (u8 0), (u8 0), (u8 0), (u8 0), (u8 0)]), 64, 64) := by kernel_rfl
theorem ti41 : tinf Try.prog 41 = some (some Value.nilFunc, 1, 8) := by kernel_rfl
theorem ti42 : tinf Try.prog 42 = some (some Value.nilFunc, 1, 8) := by kernel_rfl
theorem ti43 : tinf Try.prog 43 = some (some (Value.slice none 0 0), 1, 24) := by kernel_rfl
theorem ti44 : tinf Try.prog 44 = some (some (u64 0), 1, 8) := by kernel_rfl
theorem ti45 : tinf Try.prog 45 = some (some (agg u64 (List.replicate 5 0)), 5, 40) := by kernel_rfl
theorem ti46 : tinf Try.prog 46 = some (some (agg u64 (List.replicate 5 0)), 5, 40) := by kernel_rfl
theorem ti47 : tinf Try.prog 47 = some (some Value.nilFunc, 1, 8) := by kernel_rfl
theorem ti48 : tinf Try.prog 48 = some (some (Value.agg #[(u64 0), (u64 0), (u64 0), (u64 0), (u64 0), (u64 0), (u64 0), (u64 0), (u64 0), (u64 0)]), 10, 80) := by kernel_rfl
theorem ti49 : tinf Try.prog 49 = some (some (Value.agg #[(u64 0), (u64 0), (u64 0), (u64 0), (u64 0), (u64 0), (u64 0), (u64 0), (u64 0), (u64 0)]), 10, 80) := by kernel_rfl
theorem ti51 : tinf Try.prog 51 = some (some Value.nilFunc, 1, 8) := by kernel_rfl
theorem ti52 : tinf Try.prog 52 = some (some Value.nilFunc, 1, 8) := by kernel_rfl
theorem ti53 : tinf Try.prog 53 = some (some Value.nilFunc, 1, 8) := by kernel_rfl
theorem ti54 : tinf Try.prog 54 = some (some Value.nilFunc, 1, 8) := by kernel_rfl
theorem ti55 : tinf Try.prog 55 = some (some (agg i64 (List.replicate 16 0)), 16, 128) := by kernel_rfl
theorem ti56 : tinf Try.prog 56 = some (some (agg i64 (List.replicate 16 0)), 16, 128) := by kernel_rfl
theorem ti57 : tinf Try.prog 57 = some (some Value.nilFunc, 1, 8) := by kernel_rfl
theorem ti58 : tinf Try.prog 58 = some (some Value.nilFunc, 1, 8) := by kernel_rfl
theorem ti59 : tinf Try.prog 59 = some (some Value.nilFunc, 1, 8) := by kernel_rfl
theorem ti60 : tinf Try.prog 60 = some (some Value.nilFunc, 1, 8) := by kernel_rfl
theorem ti61 : tinf Try.prog 61 = some (some Value.nilFunc, 1, 8) := by kernel_rfl
theorem ti62 : tinf Try.prog 62 = some (some (Value.agg #[(u64 0), (u64 0)]), 2, 16) := by kernel_rfl
theorem ti63 : tinf Try.prog 63 = some (some (Value.agg #[(u64 0), (u64 0)]), 2, 16) := by kernel_rfl
theorem ti64 : tinf Try.prog 64 = some (some (agg u64 (List.replicate 10 0)), 10, 80) := by kernel_rfl
theorem ti65 : tinf Try.prog 65 = some (some Value.nilFunc, 1, 8) := by kernel_rfl
theorem ti67 : tinf Try.prog 67 = some (some Value.nilFunc, 1, 8) := by kernel_rfl
theorem ti68 : tinf Try.prog 68 = some (some (u64 0), 1, 8) := by kernel_rfl
theorem ti69 : tinf Try.prog 69 = some (some Value.nilFunc, 1, 8) := by kernel_rfl
theorem ti70 : tinf Try.prog 70 = some (some (agg i64 (List.replicate 31 0)), 31, 248) := by kernel_rfl
theorem ti71 : tinf Try.prog 71 = some (some (Value.pointer none), 1, 8) := by kernel_rfl
theorem ti72 : tinf Try.prog 72 = some (some Value.nilFunc, 1, 8) := by kernel_rfl
theorem ti73 : tinf Try.prog 73 = some (some Value.nilFunc, 1, 8) := by kernel_rfl
theorem ti79 : tinf Try.prog 79 = some (some Value.nilFunc, 1, 8) := by kernel_rfl
theorem ti80 : tinf Try.prog 80 = some (some (u32 0), 1, 4) := by kernel_rfl
theorem ti84 : tinf Try.prog 84 = some (some (Value.pointer none), 1, 8) := by kernel_rfl
theorem rM {P : Program} {n : Nat} {ops : Array Oper} {rest : List Oper} {K : (Nat → Value) → World → Prop} {fr : Nat → Value} {w : World} {x : Operand} {ty : TypeId} {pos : String} {aft : Array Edge} {d : Nat} {v : Value} (hd : Nat.blt d n = true) (h : evalF fr x = v) (k : RW P n ops rest K (upd fr d v) w) : RW P n ops (⟨some d, .move x, ty, pos, aft, none⟩ :: rest) K fr w := rw_q hd (ev_move h) k
theorem rA {P : Program} {n : Nat} {ops : Array Oper} {rest : List Oper} {K : (Nat → Value) → World → Prop} {fr : Nat → Value} {w : World} {x : Operand} {ty : TypeId} {pos : String} {aft : Array Edge} {d : Nat} {v : Value} (hd : Nat.blt d n = true) (h : evalF fr x = v) (k : RW P n ops rest K (upd fr d v) w) : RW P n ops (⟨some d, .assign x, ty, pos, aft, none⟩ :: rest) K fr w := rw_q hd (ev_assign h) k
theorem dM {P : Program} {n : Nat} {l : List Oper} {i : Nat} {r : List (Nat × Bool)} {tail : List Oper} {N : (Nat → Value) → World → Prop} {fr : Nat → Value} {w : World} {x : Operand} {ty : TypeId} {pos : String} {aft : Array Edge} {d : Nat} {v : Value} (ho : l[i]? = some ⟨some d, .move x, ty, pos, aft, none⟩) (hd : Nat.blt d n = true) (h : evalF fr x = v) (k : DW P n l tail N (Ext w) r (upd fr d v) w) : DW P n l tail N (Ext w) ((i, false) :: r) fr w := dw_q ho hd (fun _ _ => ev_move h) k
theorem rN {P : Program} {n : Nat} {ops : Array Oper} {N : (Nat → Value) → World → Prop} {Q : Exit → (Nat → Value) → World → Prop} {fr : Nat → Value} {w : World} (h : N fr w) : RW P n ops [] (fun fr w => kThen N Q .normal fr w) fr w := rw_nil (kThen_normal h)
theorem sR {P : Program} {n id : Nat} {l : List Oper} {y : Code} {Q : Exit → (Nat → Value) → World → Prop} {fr : Nat → Value} {w : World} (h : RW P n l.toArray l (fun fr w => kThen (CW P n y Q) Q .normal fr w) fr w) : CW P n (.seq (.region id l.toArray false) y) Q fr w := cw_seq (cw_region h)
theorem oM {p : Prop} (h : p := by omega) : p := h
theorem sD {p : Prop} (h : p := by first | (simp only [List.length_cons, List.length_nil]; done) | omega | (simp; done) | (simp; omega) | decide) : p := h
theorem sL {p : Prop} (h : p := by first | omega | (simp only [List.length_set, List.length_append, List.length_replicate, List.length_map, List.length_cons, List.length_nil]; omega) | (simp; done) | (simp; omega) | decide) : p := h
theorem sZ {p : Prop} (h : p := by rw [size_cl]; first | (simp only [List.length_cons, List.length_nil]; done) | omega | (simp; done) | (simp; omega) | decide) : p := h
set_option linter.defProp false in def uT2 := Try.underlying2
set_option linter.defProp false in def uT5 := Try.underlying5
set_option linter.defProp false in def uT23 := Try.underlying23
set_option linter.defProp false in def uT40 := Try.underlying40
set_option linter.defProp false in def uT44 := Try.underlying44
set_option linter.defProp false in def uT46 := Try.underlying46
set_option linter.defProp false in def uT49 := Try.underlying49
set_option linter.defProp false in def uT56 := Try.underlying56
set_option linter.defProp false in def uT63 := Try.underlying63
set_option linter.defProp false in def uT64 := Try.underlying64
set_option linter.defProp false in def uT70 := Try.underlying70
theorem nm2 : (Try.f2.name == "runtime.NumGoroutine") = false := by kernel_rfl
theorem bd2 : Try.f2.body.isNone = false := by kernel_rfl
theorem nm3 : (Try.f3.name == "runtime.NumGoroutine") = false := by kernel_rfl
theorem bd3 : Try.f3.body.isNone = false := by kernel_rfl
theorem nm4 : (Try.f4.name == "runtime.NumGoroutine") = false := by kernel_rfl
theorem bd4 : Try.f4.body.isNone = false := by kernel_rfl
theorem nm5 : (Try.f5.name == "runtime.NumGoroutine") = false := by kernel_rfl
theorem bd5 : Try.f5.body.isNone = false := by kernel_rfl
theorem nm6 : (Try.f6.name == "runtime.NumGoroutine") = false := by kernel_rfl
theorem bd6 : Try.f6.body.isNone = false := by kernel_rfl
theorem nm7 : (Try.f7.name == "runtime.NumGoroutine") = false := by kernel_rfl
theorem bd7 : Try.f7.body.isNone = false := by kernel_rfl
theorem nm8 : (Try.f8.name == "runtime.NumGoroutine") = false := by kernel_rfl
theorem bd8 : Try.f8.body.isNone = false := by kernel_rfl
theorem nm9 : (Try.f9.name == "runtime.NumGoroutine") = false := by kernel_rfl
theorem bd9 : Try.f9.body.isNone = false := by kernel_rfl
theorem nm10 : (Try.f10.name == "runtime.NumGoroutine") = false := by kernel_rfl
theorem bd10 : Try.f10.body.isNone = false := by kernel_rfl
theorem nm11 : (Try.f11.name == "runtime.NumGoroutine") = false := by kernel_rfl
theorem bd11 : Try.f11.body.isNone = false := by kernel_rfl
theorem nm12 : (Try.f12.name == "runtime.NumGoroutine") = false := by kernel_rfl
theorem bd12 : Try.f12.body.isNone = false := by kernel_rfl
theorem nm13 : (Try.f13.name == "runtime.NumGoroutine") = false := by kernel_rfl
theorem bd13 : Try.f13.body.isNone = false := by kernel_rfl
theorem nm14 : (Try.f14.name == "runtime.NumGoroutine") = false := by kernel_rfl
theorem bd14 : Try.f14.body.isNone = false := by kernel_rfl
theorem nm15 : (Try.f15.name == "runtime.NumGoroutine") = false := by kernel_rfl
theorem bd15 : Try.f15.body.isNone = false := by kernel_rfl
theorem nm16 : (Try.f16.name == "runtime.NumGoroutine") = false := by kernel_rfl
theorem bd16 : Try.f16.body.isNone = false := by kernel_rfl
theorem nm17 : (Try.f17.name == "runtime.NumGoroutine") = false := by kernel_rfl
theorem bd17 : Try.f17.body.isNone = false := by kernel_rfl
theorem nm18 : (Try.f18.name == "runtime.NumGoroutine") = false := by kernel_rfl
theorem bd18 : Try.f18.body.isNone = false := by kernel_rfl
theorem nm19 : (Try.f19.name == "runtime.NumGoroutine") = false := by kernel_rfl
theorem bd19 : Try.f19.body.isNone = false := by kernel_rfl
theorem nm20 : (Try.f20.name == "runtime.NumGoroutine") = false := by kernel_rfl
theorem bd20 : Try.f20.body.isNone = false := by kernel_rfl
theorem nm21 : (Try.f21.name == "runtime.NumGoroutine") = false := by kernel_rfl
theorem bd21 : Try.f21.body.isNone = false := by kernel_rfl
theorem nm22 : (Try.f22.name == "runtime.NumGoroutine") = false := by kernel_rfl
theorem bd22 : Try.f22.body.isNone = false := by kernel_rfl
theorem nm23 : (Try.f23.name == "runtime.NumGoroutine") = false := by kernel_rfl
theorem bd23 : Try.f23.body.isNone = false := by kernel_rfl
theorem nm24 : (Try.f24.name == "runtime.NumGoroutine") = false := by kernel_rfl
theorem bd24 : Try.f24.body.isNone = false := by kernel_rfl
theorem nm25 : (Try.f25.name == "runtime.NumGoroutine") = false := by kernel_rfl
theorem bd25 : Try.f25.body.isNone = false := by kernel_rfl
theorem nm26 : (Try.f26.name == "runtime.NumGoroutine") = false := by kernel_rfl
theorem bd26 : Try.f26.body.isNone = false := by kernel_rfl
theorem nm27 : (Try.f27.name == "runtime.NumGoroutine") = false := by kernel_rfl
theorem bd27 : Try.f27.body.isNone = false := by kernel_rfl
theorem nm28 : (Try.f28.name == "runtime.NumGoroutine") = false := by kernel_rfl
theorem bd28 : Try.f28.body.isNone = false := by kernel_rfl
theorem nm29 : (Try.f29.name == "runtime.NumGoroutine") = false := by kernel_rfl
theorem bd29 : Try.f29.body.isNone = false := by kernel_rfl
theorem nm30 : (Try.f30.name == "runtime.NumGoroutine") = false := by kernel_rfl
theorem bd30 : Try.f30.body.isNone = false := by kernel_rfl
theorem nm31 : (Try.f31.name == "runtime.NumGoroutine") = false := by kernel_rfl
theorem bd31 : Try.f31.body.isNone = false := by kernel_rfl
theorem nm33 : (Try.f33.name == "runtime.NumGoroutine") = false := by kernel_rfl
theorem bd33 : Try.f33.body.isNone = false := by kernel_rfl
theorem nm34 : (Try.f34.name == "runtime.NumGoroutine") = false := by kernel_rfl
theorem bd34 : Try.f34.body.isNone = false := by kernel_rfl
theorem nm35 : (Try.f35.name == "runtime.NumGoroutine") = false := by kernel_rfl
theorem bd35 : Try.f35.body.isNone = false := by kernel_rfl
theorem nm37 : (Try.f37.name == "runtime.NumGoroutine") = false := by kernel_rfl
theorem bd37 : Try.f37.body.isNone = false := by kernel_rfl
theorem nm38 : (Try.f38.name == "runtime.NumGoroutine") = false := by kernel_rfl
theorem bd38 : Try.f38.body.isNone = false := by kernel_rfl
theorem nm39 : (Try.f39.name == "runtime.NumGoroutine") = false := by kernel_rfl
theorem bd39 : Try.f39.body.isNone = false := by kernel_rfl
end Go.Proofs.Ytmiagmbgfhakgaa
