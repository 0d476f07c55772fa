/- The tables: closed facts on the types and functions of this translation. Conditions: none. -/
import Derived.Test.YtehkomhnmipnbaaDoorFwJ
import Derived.Test.YtehkomhnmipnbaaDoorProg
namespace Go.Proofs.YtehkomhnmipnbaaDoor
theorem ti1 : tinf Tryd.prog 1 = some (some Value.nilFunc, 1, 8) := by kernel_rfl
theorem ti2 : tinf Tryd.prog 2 = some (some (i64 0), 1, 8) := by kernel_rfl
theorem ti3 : tinf Tryd.prog 3 = some (some (i64 0), 1, 8) := by kernel_rfl
theorem ti4 : tinf Tryd.prog 4 = some (some (bl false), 1, 1) := by kernel_rfl
theorem ti5 : tinf Tryd.prog 5 = some (some (u8 0), 1, 1) := by kernel_rfl
theorem ti9 : tinf Tryd.prog 9 = some (some (Value.string ByteArray.empty), 1, 16) := by kernel_rfl
theorem ti12 : tinf Tryd.prog 12 = some (some (u64 0), 1, 8) := by kernel_rfl
theorem ti13 : tinf Tryd.prog 13 = some (some (Value.agg #[(Value.string ByteArray.empty), (u64 0)]), 2, 24) := by kernel_rfl
theorem ti20 : tinf Tryd.prog 20 = some (some Value.nilIface, 1, 16) := by kernel_rfl
theorem ti21 : tinf Tryd.prog 21 = some (some (i32 0), 1, 4) := by kernel_rfl
theorem ti22 : tinf Tryd.prog 22 = some (some (Value.slice none 0 0), 1, 24) := by kernel_rfl
theorem ti23 : tinf Tryd.prog 23 = some (some Value.nilFunc, 1, 8) := by kernel_rfl
theorem ti24 : tinf Tryd.prog 24 = some (some (Value.pointer none), 1, 8) := by kernel_rfl
theorem ti25 : tinf Tryd.prog 25 = some (some Value.nilFunc, 1, 8) := by kernel_rfl
theorem ti26 : tinf Tryd.prog 26 = some (some Value.nilFunc, 1, 8) := by kernel_rfl
theorem ti27 : tinf Tryd.prog 27 = some (some (agg u8 (List.replicate 32 0)), 32, 32) := by kernel_rfl
theorem ti28 : tinf Tryd.prog 28 = some (some (agg u8 (List.replicate 32 0)), 32, 32) := by kernel_rfl
theorem ti29 : tinf Tryd.prog 29 = some (some Value.nilFunc, 1, 8) := by kernel_rfl
theorem ti30 : tinf Tryd.prog 30 = some (some Value.nilFunc, 1, 8) := by kernel_rfl
theorem ti31 : tinf Tryd.prog 31 = some (some Value.nilFunc, 1, 8) := by kernel_rfl
theorem ti32 : tinf Tryd.prog 32 = some (some Value.nilFunc, 1, 8) := by kernel_rfl
theorem ti33 : tinf Tryd.prog 33 = some (some Value.nilFunc, 1, 8) := by kernel_rfl
theorem ti34 : tinf Tryd.prog 34 = some (some Value.nilFunc, 1, 8) := by kernel_rfl
theorem ti35 : tinf Tryd.prog 35 = some (some (Value.slice none 0 0), 1, 24) := by kernel_rfl
theorem ti36 : tinf Tryd.prog 36 = some (some Value.nilFunc, 1, 8) := by kernel_rfl
theorem ti37 : tinf Tryd.prog 37 = some (some Value.nilFunc, 1, 8) := by kernel_rfl
theorem ti38 : tinf Tryd.prog 38 = some (some Value.nilFunc, 1, 8) := by kernel_rfl
theorem ti39 : tinf Tryd.prog 39 = some (some (i64 0), 1, 8) := by kernel_rfl
theorem ti41 : tinf Tryd.prog 41 = some (some Value.nilFunc, 1, 8) := by kernel_rfl
theorem ti42 : tinf Tryd.prog 42 = some (some Value.nilFunc, 1, 8) := by kernel_rfl
theorem ti43 : tinf Tryd.prog 43 = some (some Value.nilFunc, 1, 8) := by kernel_rfl
theorem ti44 : tinf Tryd.prog 44 = some (some Value.nilFunc, 1, 8) := by kernel_rfl
theorem ti45 : tinf Tryd.prog 45 = some (some (Value.slice none 0 0), 1, 24) := by kernel_rfl
theorem ti47 : tinf Tryd.prog 47 = some (some Value.nilFunc, 1, 8) := by kernel_rfl
theorem ti48 : tinf Tryd.prog 48 = some (some Value.nilFunc, 1, 8) := by kernel_rfl
theorem ti50 : tinf Tryd.prog 50 = some (some Value.nilFunc, 1, 8) := by kernel_rfl
theorem ti51 : tinf Tryd.prog 51 = some (some Value.nilFunc, 1, 8) := by kernel_rfl
theorem ti52 : tinf Tryd.prog 52 = some (some Value.nilFunc, 1, 8) := by kernel_rfl
theorem ti53 : tinf Tryd.prog 53 = some (some (u32 0), 1, 4) := by kernel_rfl
theorem ti54 : tinf Tryd.prog 54 = some (some (agg u32 (List.replicate 8 0)), 8, 32) := by kernel_rfl
theorem ti55 : tinf Tryd.prog 55 = some (some (u64 0), 1, 8) := by kernel_rfl
theorem ti56 : tinf Tryd.prog 56 = some (some (Value.agg #[(u32 0), (u32 0), (u32 0), (u32 0), (u32 0), (u32 0), (u32 0), (u32 0), (Value.slice none 0 0), (u64 0)]), 10, 64) := by kernel_rfl
theorem ti57 : tinf Tryd.prog 57 = some (some (Value.agg #[(u32 0), (u32 0), (u32 0), (u32 0), (u32 0), (u32 0), (u32 0), (u32 0), (Value.slice none 0 0), (u64 0)]), 10, 64) := by kernel_rfl
theorem ti58 : tinf Tryd.prog 58 = some (some Value.nilFunc, 1, 8) := by kernel_rfl
theorem ti59 : tinf Tryd.prog 59 = some (some (u64 0), 1, 8) := by kernel_rfl
theorem ti60 : tinf Tryd.prog 60 = some (some (agg u32 (List.replicate 64 0)), 64, 256) := by kernel_rfl
theorem ti61 : tinf Tryd.prog 61 = some (some Value.nilFunc, 1, 8) := by kernel_rfl
theorem ti62 : tinf Tryd.prog 62 = some (some Value.nilFunc, 1, 8) := by kernel_rfl
theorem ti63 : tinf Tryd.prog 63 = some (some Value.nilFunc, 1, 8) := by kernel_rfl
theorem ti64 : tinf Tryd.prog 64 = some (some Value.nilFunc, 1, 8) := by kernel_rfl
theorem ti65 : tinf Tryd.prog 65 = some (some Value.nilFunc, 1, 8) := by kernel_rfl
theorem ti66 : tinf Tryd.prog 66 = some (some Value.nilFunc, 1, 8) := by kernel_rfl
theorem ti72 : tinf Tryd.prog 72 = some (some Value.nilFunc, 1, 8) := by kernel_rfl
theorem ti76 : tinf Tryd.prog 76 = some (some (Value.pointer none), 1, 8) := by kernel_rfl
theorem nm2 : (Tryd.f2.name == "runtime.NumGoroutine") = false := by kernel_rfl
theorem bd2 : Tryd.f2.body.isNone = false := by kernel_rfl
theorem nm3 : (Tryd.f3.name == "runtime.NumGoroutine") = false := by kernel_rfl
theorem bd3 : Tryd.f3.body.isNone = false := by kernel_rfl
theorem nm4 : (Tryd.f4.name == "runtime.NumGoroutine") = false := by kernel_rfl
theorem bd4 : Tryd.f4.body.isNone = false := by kernel_rfl
theorem nm5 : (Tryd.f5.name == "runtime.NumGoroutine") = false := by kernel_rfl
theorem bd5 : Tryd.f5.body.isNone = false := by kernel_rfl
theorem nm6 : (Tryd.f6.name == "runtime.NumGoroutine") = false := by kernel_rfl
theorem bd6 : Tryd.f6.body.isNone = false := by kernel_rfl
theorem nm7 : (Tryd.f7.name == "runtime.NumGoroutine") = false := by kernel_rfl
theorem bd7 : Tryd.f7.body.isNone = false := by kernel_rfl
theorem nm8 : (Tryd.f8.name == "runtime.NumGoroutine") = false := by kernel_rfl
theorem bd8 : Tryd.f8.body.isNone = false := by kernel_rfl
theorem nm9 : (Tryd.f9.name == "runtime.NumGoroutine") = false := by kernel_rfl
theorem bd9 : Tryd.f9.body.isNone = false := by kernel_rfl
theorem nm10 : (Tryd.f10.name == "runtime.NumGoroutine") = false := by kernel_rfl
theorem bd10 : Tryd.f10.body.isNone = false := by kernel_rfl
theorem nm11 : (Tryd.f11.name == "runtime.NumGoroutine") = false := by kernel_rfl
theorem bd11 : Tryd.f11.body.isNone = false := by kernel_rfl
theorem nm12 : (Tryd.f12.name == "runtime.NumGoroutine") = false := by kernel_rfl
theorem bd12 : Tryd.f12.body.isNone = false := by kernel_rfl
theorem nm13 : (Tryd.f13.name == "runtime.NumGoroutine") = false := by kernel_rfl
theorem bd13 : Tryd.f13.body.isNone = false := by kernel_rfl
theorem nm14 : (Tryd.f14.name == "runtime.NumGoroutine") = false := by kernel_rfl
theorem bd14 : Tryd.f14.body.isNone = false := by kernel_rfl
theorem nm15 : (Tryd.f15.name == "runtime.NumGoroutine") = false := by kernel_rfl
theorem bd15 : Tryd.f15.body.isNone = false := by kernel_rfl
theorem nm16 : (Tryd.f16.name == "runtime.NumGoroutine") = false := by kernel_rfl
theorem bd16 : Tryd.f16.body.isNone = false := by kernel_rfl
theorem nm17 : (Tryd.f17.name == "runtime.NumGoroutine") = false := by kernel_rfl
theorem bd17 : Tryd.f17.body.isNone = false := by kernel_rfl
theorem nm18 : (Tryd.f18.name == "runtime.NumGoroutine") = false := by kernel_rfl
theorem bd18 : Tryd.f18.body.isNone = false := by kernel_rfl
theorem nm19 : (Tryd.f19.name == "runtime.NumGoroutine") = false := by kernel_rfl
theorem bd19 : Tryd.f19.body.isNone = false := by kernel_rfl
theorem nm20 : (Tryd.f20.name == "runtime.NumGoroutine") = false := by kernel_rfl
theorem bd20 : Tryd.f20.body.isNone = false := by kernel_rfl
theorem nm21 : (Tryd.f21.name == "runtime.NumGoroutine") = false := by kernel_rfl
theorem bd21 : Tryd.f21.body.isNone = false := by kernel_rfl
theorem nm22 : (Tryd.f22.name == "runtime.NumGoroutine") = false := by kernel_rfl
theorem bd22 : Tryd.f22.body.isNone = false := by kernel_rfl
theorem nm23 : (Tryd.f23.name == "runtime.NumGoroutine") = false := by kernel_rfl
theorem bd23 : Tryd.f23.body.isNone = false := by kernel_rfl
theorem nm24 : (Tryd.f24.name == "runtime.NumGoroutine") = false := by kernel_rfl
theorem bd24 : Tryd.f24.body.isNone = false := by kernel_rfl
theorem nm25 : (Tryd.f25.name == "runtime.NumGoroutine") = false := by kernel_rfl
theorem bd25 : Tryd.f25.body.isNone = false := by kernel_rfl
theorem nm26 : (Tryd.f26.name == "runtime.NumGoroutine") = false := by kernel_rfl
theorem bd26 : Tryd.f26.body.isNone = false := by kernel_rfl
theorem nm27 : (Tryd.f27.name == "runtime.NumGoroutine") = false := by kernel_rfl
theorem bd27 : Tryd.f27.body.isNone = false := by kernel_rfl
theorem nm28 : (Tryd.f28.name == "runtime.NumGoroutine") = false := by kernel_rfl
theorem bd28 : Tryd.f28.body.isNone = false := by kernel_rfl
theorem nm29 : (Tryd.f29.name == "runtime.NumGoroutine") = false := by kernel_rfl
theorem bd29 : Tryd.f29.body.isNone = false := by kernel_rfl
theorem nm30 : (Tryd.f30.name == "runtime.NumGoroutine") = false := by kernel_rfl
theorem bd30 : Tryd.f30.body.isNone = false := by kernel_rfl
theorem nm31 : (Tryd.f31.name == "runtime.NumGoroutine") = false := by kernel_rfl
theorem bd31 : Tryd.f31.body.isNone = false := by kernel_rfl
theorem nm32 : (Tryd.f32.name == "runtime.NumGoroutine") = false := by kernel_rfl
theorem bd32 : Tryd.f32.body.isNone = false := by kernel_rfl
theorem nm33 : (Tryd.f33.name == "runtime.NumGoroutine") = false := by kernel_rfl
theorem bd33 : Tryd.f33.body.isNone = false := by kernel_rfl
theorem nm34 : (Tryd.f34.name == "runtime.NumGoroutine") = false := by kernel_rfl
theorem bd34 : Tryd.f34.body.isNone = false := by kernel_rfl
theorem nm35 : (Tryd.f35.name == "runtime.NumGoroutine") = false := by kernel_rfl
theorem bd35 : Tryd.f35.body.isNone = false := by kernel_rfl
theorem nm36 : (Tryd.f36.name == "runtime.NumGoroutine") = false := by kernel_rfl
theorem bd36 : Tryd.f36.body.isNone = false := by kernel_rfl
theorem nm37 : (Tryd.f37.name == "runtime.NumGoroutine") = false := by kernel_rfl
theorem bd37 : Tryd.f37.body.isNone = false := by kernel_rfl
theorem nm59 : (Tryd.f59.name == "runtime.NumGoroutine") = false := by kernel_rfl
theorem bd59 : Tryd.f59.body.isNone = false := by kernel_rfl
end Go.Proofs.YtehkomhnmipnbaaDoor
